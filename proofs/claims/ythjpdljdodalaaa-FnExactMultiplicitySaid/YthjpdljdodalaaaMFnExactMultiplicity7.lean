/- The statement FnExactMultiplicitySaid, proved: part 7 of 7 (texts of this session and of the kit's print, put together and cut to what is used by a program of it). -/
import Derived.Test.YthjpdljdodalaaaMFnExactMultiplicity6
import Derived.Deep.Slices
import Derived.ChangeSame
import Derived.ChangeArms
import Derived.WideShapes
import Derived.Lib.SmallJoins
import Derived.ChangeShapes
import Derived.Test.YthjpdljdodalaaaRows
import Derived.WalkKit
import Derived.ProofKit
import Derived.OpenShut
import Derived.ShutString
import Derived.ChangeOld
import Derived.Below
import Derived.SizedLaws
import Derived.Carry
namespace Go.Proofs.Ythjpdljdodalaaa.Lib
set_option linter.unusedVariables false
open Go.RowKit Go.Proofs.YthjpdljdodalaaaW.PrintWords
theorem zBw {σ ρ : Type} (L : Nat → σ → Option ρ) (I : σ → Prop) (m : σ → Nat) (g : σ → ρ)
    (h : ∀ s, I s → (∃ K, ∀ k, K ≤ k → L (k + 1) s = some (g s)) ∨ (∃ s' K, I s' ∧ m s' < m s ∧ g s' = g s ∧ ∀ k, K ≤ k → L (k + 1) s = L k s')) :
    ∀ s, I s → Ev (fun k => L k s) (g s) := by
  have key : ∀ (n : Nat) (s : σ), m s < n → I s → Ev (fun k => L k s) (g s) := by
    intro n
    induction n with
    | zero => intro s hs; omega
    | succ n ih =>
      intro s hs hi
      rcases h s hi with ⟨K, hK⟩ | ⟨s', K, hi', hm, hg, hK⟩
      · refine ⟨K + 1, fun k hk => ?_⟩
        obtain ⟨j, rfl⟩ : ∃ j, k = j + 1 := ⟨k - 1, by omega⟩
        exact hK j (by omega)
      · obtain ⟨K', hK'⟩ := ih s' (by omega) hi'
        refine ⟨max K K' + 1, fun k hk => ?_⟩
        obtain ⟨j, rfl⟩ : ∃ j, k = j + 1 := ⟨k - 1, by omega⟩
        show L (j + 1) s = some (g s)
        rw [hK j (by omega), ← hg]
        exact hK' j (by omega)
  intro s hi
  exact key (m s + 1) s (by omega) hi
theorem Qy {σ ρ : Type} (L : Nat → σ → Option ρ) (I : σ → Prop) (m : σ → Nat) (g : σ → ρ)
    (h : ∀ s, I s → (∀ k, L (k + 1) s = some (g s)) ∨ (∃ s', I s' ∧ m s' < m s ∧ g s' = g s ∧ ∀ k, L (k + 1) s = L k s')) :
    ∀ s, I s → Ev (fun k => L k s) (g s) :=
  zBw L I m g fun s hi => by
    rcases h s hi with h1 | ⟨s', h1, h2, h3, h4⟩
    · exact .inl ⟨0, fun k _ => h1 k⟩
    · exact .inr ⟨s', 0, h1, h2, h3, fun k _ => h4 k⟩
theorem qw {x : Int} (h0 : -9223372036854775808 ≤ x) (h1 : x ≤ 9223372036854775807) : wrap64 x = x := by
  unfold wrap64; omega
theorem ZK {n : Nat} (h : n ≤ 4611686018427387904) : wrap64 ((n : Int) + 1) = ((n + 1 : Nat) : Int) := by
  rw [qw (by omega) (by omega)]; rfl
theorem Jm (xs : List Int) (n : Nat) (h : n < xs.length) : rd xs (n : Int) = xs[n] := by simp [rd, h]
theorem ZD {α : Type} {c : Prop} [Decidable c] {f g : Nat → Option α} {r : α} (h : ¬ c) (k : Ev g r) : Ev (fun n => if c then f n else g n) r := Ev.congr (fun _ => if_neg h) k
theorem ql {α : Type} {c : Prop} [Decidable c] {f g : Nat → Option α} {r : α} (h : c) (k : Ev f r) : Ev (fun n => if c then f n else g n) r := Ev.congr (fun _ => if_pos h) k
theorem Qz {α : Type} {r r' : α} (h : r = r') : Ev (fun _ => some r) r' := h ▸ Ev.now r
theorem JA {α : Type} {o : Option α} {r : α} (h : o = some r) : Ev (fun _ => o) r := ⟨0, fun _ _ => h⟩
theorem zEK {α : Type} {g : Nat → Option α} {r : α} (h : ∀ k, g k = some r) : Ev g r := ⟨0, fun k _ => h k⟩
theorem qi {α : Type} {g f : Nat → Option α} {r : α} (h : ∀ k, g (k + 1) = f k) (k : Ev f r) : Ev g r := Ev.step h k
theorem zDH {α : Type} {f : α → Option Bool} {p : α → Bool} : ∀ (i : Nat) (l : List α), (∀ x ∈ l, f x = some (p x)) → ∃ r, zDh f i l = some r ∧ decide (0 ≤ r) = l.any p
  | i, [], _ => ⟨-1, rfl, rfl⟩
  | i, x :: xs, h => by
    rw [zAm, h x (List.mem_cons_self ..), yfy]
    cases hp : p x with
    | true => exact ⟨i, by rw [if_pos rfl], by simp [hp]⟩
    | false =>
      obtain ⟨r, h1, h2⟩ := zDH (i + 1) xs (fun y hy => h y (List.mem_cons_of_mem _ hy))
      exact ⟨r, by rw [if_neg (by simp)]; exact h1, by rw [h2]; simp [hp]⟩
theorem contO {α : Type} {f : α → Option Bool} {p : α → Bool} (l : List α) (h : ∀ x ∈ l, f x = some (p x)) : (zDh f 0 l).bind (fun i => some (decide (0 ≤ i))) = some (l.any p) := by
  obtain ⟨r, h1, h2⟩ := zDH 0 l h
  rw [h1, yfy, h2]
def zCR (a : Int) : Nat → List Int
  | 0 => []
  | n + 1 => a :: zCR (a + 1) n
end Go.Proofs.Ythjpdljdodalaaa.Lib
namespace Go.Proofs.Ythjpdljdodalaaa.P
open Go.RowKit Go.Proofs.YthjpdljdodalaaaW.PrintWords Go.Proofs.Ythjpdljdodalaaa.Lib
set_option linter.unusedVariables false
theorem zAE (a b c : Int) : qy.f a b c = some (decide (b ≤ a) && decide (a ≤ c)) := by
  unfold qy.f
  by_cases h : b ≤ a <;> simp [h]
theorem zEx (a b c : Int) : Zt.f a b c = some (decide (b ≤ a) && decide (a ≤ c)) := by
  unfold Zt.f
  by_cases h : b ≤ a <;> simp [h]
theorem zCv (a : Int) : ZQ.f a = some (decide (0 ≤ a) && decide (a ≤ 23)) := by
  unfold ZQ.f
  by_cases h : 0 ≤ a
  · rw [if_pos h]; simp [h]; omega
  · rw [if_neg h]; simp [h]
theorem zEL (a : Int) : Zk.f a = some (decide (0 ≤ a) && decide (a ≤ 23)) := by
  unfold Zk.f; rw [zAE]; rfl
theorem zFB {p : Int} (h0 : 0 ≤ p) (h1 : p ≤ 23) : ∃ m : Fin 24, p = (m.val : Int) := ⟨⟨p.toNat, by omega⟩, by simp; omega⟩
theorem zCS {p : Int} (h0 : 0 ≤ p) (h1 : p ≤ 23) : Ev (fun k => zV.f k p) (ZF p) := by
  obtain ⟨m, rfl⟩ := zFB h0 h1
  have key : ∀ m : Fin 24, zV.f 5 (m.val : Int) = some (ZF (m.val : Int)) := by decide +kernel
  exact Ev.of (fun k => zV.mono _ k) (key m)
theorem zEM (p : Int) : (ZF p).length = 4 := rfl
theorem zA0 {p f : Int} (h0 : 0 ≤ p) (h1 : p ≤ 23) (hf0 : 0 ≤ f) (hf1 : f ≤ 3) : 0 ≤ rd (ZF p) f ∧ rd (ZF p) f ≤ 3 := by
  obtain ⟨a, b, c, d⟩ := zAk p h0 h1
  exact zBJ a b c d f hf0 hf1
theorem zAV {p f : Int} (h0 : 0 ≤ p) (h1 : p ≤ 23) (hf0 : 0 ≤ f) (hf1 : f ≤ 3) : Ev (fun k => qv.f k p f) (rd (ZF p) f) := by
  refine Ev.bind (zCS h0 h1) ?_
  exact ql hf0 (ql (by rw [zEM]; omega) (Ev.now _))
theorem zDi {p : Int} (h0 : 0 ≤ p) (h1 : p ≤ 23) : Ev (fun k => qB.f k p) (zDe p) := by
  obtain ⟨m, rfl⟩ := zFB h0 h1
  have key : ∀ m : Fin 24, qB.f 40 (m.val : Int) = some (zDe (m.val : Int)) := by decide +kernel
  exact Ev.of (fun k => qB.mono _ k) (key m)
theorem zEN {q p f : Int} (h0 : 0 ≤ p) (h1 : p ≤ 23) (hf0 : 0 ≤ f) (hf1 : f ≤ 3) : ZC.f q p f = some (rd (ZF p) f) := if_pos ⟨h0, h1, hf0, hf1⟩
theorem zDj {q p a : Int} (h0 : 0 ≤ p) (h1 : p ≤ 23) : qp.f q p a = some (a, zDe p) := by
  unfold qp.f QA.f
  rw [if_pos ⟨h0, h1⟩]; rfl
abbrev Tri := List (List qI)
def Small (t : Tri) : Prop := t.length ≤ 1048576 ∧ ∀ r ∈ t, r.length ≤ 1048576
def zDI (t : List (List qT)) : Prop := t.length ≤ 1048576 ∧ ∀ r ∈ t, r.length ≤ 1048576
def Fits (t : List (List qT)) : Prop := t.length ≤ 9223372036854775807 ∧ ∀ r ∈ t, r.length ≤ 9223372036854775807
theorem Qj (t : List (List qT)) (n : Nat) (h : n < t.length) : ZH t (n : Int) = t[n] := by simp [ZH, h]
theorem Qd (t : Tri) (n : Nat) (h : n < t.length) : zE t (n : Int) = t[n] := by simp [zE, h]
theorem zBx (t : List qT) (n : Nat) (h : n < t.length) : Zn t (n : Int) = t[n] := by simp [Zn, h]
theorem zBL (t : List qI) (n : Nat) (h : n < t.length) : zH t (n : Int) = t[n] := by simp [zH, h]
theorem zBM (r : List qT) (a : Int) (h0 : 0 ≤ a) (h1 : a ≤ 1048576) (h : r.length ≤ 9223372036854775807) : Zq.f r a = some (if a - r.length < 0 then -1 else a - r.length) := by
  unfold Zq.f
  rw [qw (by omega) (by omega)]
  split <;> rfl
theorem zCw (t : List (List qT)) (h : Fits t) (hl : t.length ≤ 1048576) : ∃ r, Ev (fun k => qU.l0 k t (1048576 - t.length) 0) r ∧ (0 ≤ r → ∀ x ∈ t, x.length ≤ 1048576) := by
  have key : ∀ d n : Nat, ∀ a : Int, n + d = t.length → 0 ≤ a → a ≤ 1048576 → ∃ r, Ev (fun k => qU.l0 k t a (n : Int)) r ∧ (0 ≤ r → ∀ x ∈ t.drop n, x.length ≤ 1048576) := by
    intro d
    induction d with
    | zero =>
      intro n a hn h0 h1
      refine ⟨a, qi (f := fun _ => some a) (fun k => ?_) (Ev.now a), fun _ x hx => ?_⟩
      · simp only [qU.l0]; rw [if_neg (by omega)]
      · rw [List.drop_eq_nil_of_le (by omega)] at hx; cases hx
    | succ d ih =>
      intro n a hn h0 h1
      have hlt : n < t.length := by omega
      have hf := h.2 t[n] (List.getElem_mem hlt)
      by_cases hc : a - t[n].length < 0
      · refine ⟨-1, qi (f := fun _ => some (-1)) (fun k => ?_) (Ev.now (-1)), fun h => by omega⟩
        simp only [qU.l0]
        rw [if_pos (by omega), if_pos (by omega), Qj t n hlt, zBM _ a h0 h1 hf, yfy, if_pos hc]
        rfl
      · obtain ⟨r, hr, hr2⟩ := ih (n + 1) (a - t[n].length) (by omega) (by omega) (by omega)
        refine ⟨r, qi (fun k => ?_) hr, fun h x hx => ?_⟩
        · simp only [qU.l0]
          rw [if_pos (by omega), if_pos (by omega), Qj t n hlt, zBM _ a h0 h1 hf, yfy, if_neg hc, if_neg (by omega), ZK (by omega)]
        · rw [yoy hlt] at hx
          rcases List.mem_cons.1 hx with rfl | hx
          · omega
          · exact hr2 h x hx
  obtain ⟨r, hr, hr2⟩ := key t.length 0 (1048576 - t.length) (by omega) (by omega) (by omega)
  exact ⟨r, hr, fun h => by have := hr2 h; rwa [List.drop_zero] at this⟩
theorem zA1 (t : List (List qT)) (h : Fits t) : ∃ r, Ev (fun k => ZM.f k t 1048576) r ∧ (¬ r < 0 → zDI t) := by
  by_cases hl : (1048576 - (t.length : Int)) < 0
  · refine ⟨-1, ?_, fun h => by omega⟩
    refine Ev.bind (a := -1) (zEK (fun k => ?_)) (ql (by omega) (Ev.now _))
    unfold qU.f
    have := h.1
    rw [qw (by omega) (by omega), if_pos hl]
  · obtain ⟨r, hr, hr2⟩ := zCw t h (by omega)
    have h2 : Ev (fun k => qU.f k t 1048576) r := by
      refine Ev.congr (fun k => ?_) hr
      unfold qU.f
      rw [qw (by omega) (by omega), if_neg hl]
    by_cases hn : r < 0
    · exact ⟨-1, Ev.bind h2 (ql hn (Ev.now _)), fun h => by omega⟩
    · exact ⟨r, Ev.bind h2 (ZD hn (Ev.now _)), fun _ => ⟨by omega, hr2 (by omega)⟩⟩
def cvF (x : qT) : qI := ⟨x.f0, x.f1⟩
def cvR (r : List qT) : List qI := r.map cvF
def cvT (t : List (List qT)) : Tri := t.map cvR
theorem zEO {t : List (List qT)} (h : zDI t) : Small (cvT t) := by
  refine ⟨by simp [cvT]; exact h.1, fun r hr => ?_⟩
  obtain ⟨s, hs, rfl⟩ := List.mem_map.1 hr
  simp [cvR]; exact h.2 s hs
theorem zAO {α β : Type} (f : α → β) (l : List α) (z : β) (n : Nat) (h : n < l.length) :
    ((l.take n).map f ++ List.replicate (l.length - n) z).set n (f l[n]) = (l.take (n + 1)).map f ++ List.replicate (l.length - (n + 1)) z := by
  have e : l.length - n = (l.length - (n + 1)) + 1 := by omega
  rw [e, List.replicate_succ, List.set_append_right _ _ (by simp; omega)]
  have : n - ((l.take n).map f).length = 0 := by simp; omega
  rw [this, yby, List.take_succ_eq_append_getElem h, List.map_append, List.append_assoc]
  rfl
theorem zDk (l : List qT) (h : l.length ≤ 1048576) : Ev (fun k => qe.f k l) (cvR l) := by
  have hl : Ev (fun k => qe.l0 k l (List.replicate l.length Jw) 0) (cvR l) := by
    refine Qy (fun k (s : List qI × Int) => qe.l0 k l s.1 s.2) (fun s => ∃ n : Nat, n ≤ l.length ∧ s.2 = n ∧ s.1 = (l.take n).map cvF ++ List.replicate (l.length - n) Jw) (fun s => l.length - s.2.toNat) (fun _ => cvR l) ?_ (List.replicate l.length Jw, 0) ⟨0, by omega, rfl, by simp⟩
    rintro ⟨a, i⟩ ⟨n, hn, rfl, rfl⟩
    dsimp only
    by_cases hlt : n < l.length
    · refine .inr ⟨((l.take (n + 1)).map cvF ++ List.replicate (l.length - (n + 1)) Jw, ((n + 1 : Nat) : Int)), ⟨n + 1, by omega, rfl, rfl⟩, by simp; omega, rfl, fun k => ?_⟩
      simp only [qe.l0, Qc.f, yfy]
      rw [if_pos (by omega), if_pos (by omega), if_pos (by simp; omega), ZK (by omega), yny, zBx l n hlt]
      have := zAO cvF l Jw n hlt
      rw [← this]
      rfl
    · obtain rfl : n = l.length := by omega
      refine .inl fun k => ?_
      simp only [qe.l0]
      rw [if_neg (by omega)]
      simp [cvR]
  refine Ev.congr (fun k => ?_) hl
  unfold qe.f
  rw [if_pos (by omega), if_pos (by simp; omega), yny]
theorem zCx (l : List (List qT)) (h : zDI l) : Ev (fun k => qV.f k l) (cvT l) := by
  have hl : Ev (fun k => qV.l0 k l (List.replicate l.length []) 0) (cvT l) := by
    refine zBw (fun k (s : Tri × Int) => qV.l0 k l s.1 s.2) (fun s => ∃ n : Nat, n ≤ l.length ∧ s.2 = n ∧ s.1 = (l.take n).map cvR ++ List.replicate (l.length - n) []) (fun s => l.length - s.2.toNat) (fun _ => cvT l) ?_ (List.replicate l.length [], 0) ⟨0, by omega, rfl, by simp⟩
    rintro ⟨a, i⟩ ⟨n, hn, rfl, rfl⟩
    dsimp only
    by_cases hlt : n < l.length
    · obtain ⟨K, hK⟩ := zDk l[n] (h.2 _ (List.getElem_mem hlt))
      refine .inr ⟨((l.take (n + 1)).map cvR ++ List.replicate (l.length - (n + 1)) [], ((n + 1 : Nat) : Int)), K, ⟨n + 1, by omega, rfl, rfl⟩, by simp; omega, rfl, fun k hk => ?_⟩
      have e : qe.f k l[n] = some _ := hK k hk
      have h1 := h.1
      simp only [qV.l0]
      rw [if_pos (by omega), if_pos (by omega), Qj l n hlt, e, yfy, if_pos (by simp; omega), ZK (by omega), yny, zAO cvR l [] n hlt]
    · obtain rfl : n = l.length := by omega
      refine .inl ⟨0, fun k _ => ?_⟩
      simp only [qV.l0]
      rw [if_neg (by omega)]
      simp [cvT]
  have h1 := h.1
  refine Ev.congr (fun k => ?_) hl
  unfold qV.f
  rw [if_pos (by omega), if_pos (by simp; omega), yny]
theorem zA2 (l : List (List qT)) (h : zDI l) : Ev (fun k => qn.f k l) (cvT l) := Ev.bind (zCx l h) (Ev.now _)
theorem zDl (l : List qI) (h : l.length ≤ 1048576) : Ev (fun k => qE.f k l l) true := by
  have hl : Ev (fun k => qE.l0 k l l 0) true := by
    refine Qy (fun k (s : Int) => qE.l0 k l l s) (fun s => ∃ n : Nat, n ≤ l.length ∧ s = n) (fun s => l.length - s.toNat) (fun _ => true) ?_ 0 ⟨0, by omega, rfl⟩
    rintro i ⟨n, hn, rfl⟩
    by_cases hlt : n < l.length
    · refine .inr ⟨((n + 1 : Nat) : Int), ⟨n + 1, by omega, rfl⟩, by simp; omega, rfl, fun k => ?_⟩
      simp only [qE.l0, QI.f]
      rw [if_pos (by omega), if_pos (by omega), if_pos (by omega), if_pos trivial, if_pos trivial, yfy, if_pos rfl, ZK (by omega)]
    · refine .inl fun k => ?_
      simp only [qE.l0]
      rw [if_neg (by omega)]
  refine Ev.congr (fun k => ?_) hl
  unfold qE.f
  rw [if_pos rfl]
theorem zA3 (l : Tri) (h : Small l) : Ev (fun k => ZV.f k l l) true := by
  have hl : Ev (fun k => zx.l0 k l l 0) true := by
    refine zBw (fun k (s : Int) => zx.l0 k l l s) (fun s => ∃ n : Nat, n ≤ l.length ∧ s = n) (fun s => l.length - s.toNat) (fun _ => true) ?_ 0 ⟨0, by omega, rfl⟩
    rintro i ⟨n, hn, rfl⟩
    by_cases hlt : n < l.length
    · obtain ⟨K, hK⟩ := zDl l[n] (h.2 _ (List.getElem_mem hlt))
      refine .inr ⟨((n + 1 : Nat) : Int), K, ⟨n + 1, by omega, rfl⟩, by simp; omega, rfl, fun k hk => ?_⟩
      have e : qE.f k l[n] l[n] = some _ := hK k hk
      have h1 := h.1
      simp only [zx.l0]
      rw [if_pos (by omega), if_pos (by omega), if_pos (by omega), Qd l n hlt, e, yfy, if_pos rfl, ZK (by omega)]
    · refine .inl ⟨0, fun k _ => ?_⟩
      simp only [zx.l0]
      rw [if_neg (by omega)]
  have h2 : Ev (fun k => zx.f k l l) true := by
    refine Ev.congr (fun k => ?_) hl
    unfold zx.f
    rw [if_pos rfl]
  exact Ev.bind h2 (ql rfl (Ev.now _))
abbrev fc (t : Tri) (a f : Int) : qI := zH (zE t a) f
def zAQ (t : Tri) (a f : Int) : Bool :=
  if (fc t a f).f0 = -1 then (fc t a f).f1 == 0
  else if 0 ≤ (fc t a f).f0 ∧ (fc t a f).f0 < (t.length : Int) ∧ 0 ≤ (fc t a f).f1 ∧ (fc t a f).f1 ≤ 23 then
    ((fc t (fc t a f).f0 (rd (ZF (fc t a f).f1) f)).f0 == a && (fc t (fc t a f).f0 (rd (ZF (fc t a f).f1) f)).f1 == zDe (fc t a f).f1) && !((fc t a f).f0 == a && rd (ZF (fc t a f).f1) f == f)
  else false
def Qq (t : Tri) (a : Int) : Int → Nat → Bool
  | _, 0 => true
  | f, d + 1 => zAQ t a f && Qq t a (f + 1) d
def Jf (t : Tri) : Int → Nat → Bool
  | _, 0 => true
  | a, d + 1 => Qq t a 0 4 && Jf t (a + 1) d
def QE (t : Tri) : Bool := decide (t.length ≤ 8) && (t.all (fun r => decide (r.length = 4)) && Jf t 0 t.length)
section
variable {t : Tri}
theorem zFY (h4 : ∀ r ∈ t, r.length = 4) {a : Int} (h0 : 0 ≤ a) (h1 : a < t.length) : (zE t a).length = 4 := by
  obtain ⟨n, rfl⟩ := Int.eq_ofNat_of_zero_le h0
  rw [Qd t n (by omega)]
  exact h4 _ (List.getElem_mem _)
theorem zB5 (h4 : ∀ r ∈ t, r.length = 4) (hn : t.length ≤ 8) {a f : Int} (h0 : 0 ≤ a) (h1 : a < t.length) (hf0 : 0 ≤ f) (hf1 : f ≤ 3) : Ev (fun k => zS.f k t a f) (zAQ t a f) := by
  have hr := zFY h4 h0 h1
  refine Ev.congr (fun k => by unfold zS.f; rw [if_pos h0, if_pos h1, if_pos hf0, if_pos (by omega)]) ?_
  change Ev (fun k => if (fc t a f).f0 = -1 then some ((fc t a f).f1 == 0) else _) (zAQ t a f)
  unfold zAQ
  by_cases hb : (fc t a f).f0 = -1
  · rw [if_pos hb]; exact ql hb (Ev.now _)
  · refine ZD hb ?_
    rw [if_neg hb]
    have hix : qh.f t (fc t a f).f0 = some (decide (0 ≤ (fc t a f).f0) && decide ((fc t a f).f0 ≤ (t.length : Int) - 1)) := by
      unfold qh.f qj.f
      rw [yfy, qw (by omega) (by omega), zAE]; rfl
    have hfalse : Ev (fun k => zS.j0 k a f true t (fc t a f).f0 (fc t a f).f1) false := qi (fun k => by rw [zS.j0, if_pos rfl]) (Ev.now false)
    refine Ev.bind (JA hix) ?_
    by_cases hi : 0 ≤ (fc t a f).f0 ∧ (fc t a f).f0 < (t.length : Int)
    · refine ql (by simp; omega) ?_
      refine Ev.bind (JA (zEL _)) ?_
      by_cases hp : 0 ≤ (fc t a f).f1 ∧ (fc t a f).f1 ≤ 23
      · rw [if_pos ⟨hi.1, hi.2, hp.1, hp.2⟩]
        have e : (!(decide (0 ≤ (fc t a f).f1) && decide ((fc t a f).f1 ≤ 23))) = false := by simp [hp]
        rw [e]
        refine qi (fun k => by rw [zS.j0, if_neg (by simp), zEN hp.1 hp.2 hf0 hf1, yfy]) ?_
        obtain ⟨hg0, hg1⟩ := zA0 hp.1 hp.2 hf0 hf1
        have hr2 := zFY h4 hi.1 hi.2
        refine ql hi.1 (ql hi.2 (ql hg0 (ql (by rw [hr2]; omega) ?_)))
        refine Ev.bind (JA (zDj hp.1 hp.2)) ?_
        change Ev (fun k => if ((fc t (fc t a f).f0 (rd (ZF (fc t a f).f1) f)).f0 == a && (fc t (fc t a f).f0 (rd (ZF (fc t a f).f1) f)).f1 == zDe (fc t a f).f1) = true then _ else _) _
        generalize ((fc t (fc t a f).f0 (rd (ZF (fc t a f).f1) f)).f0 == a && (fc t (fc t a f).f0 (rd (ZF (fc t a f).f1) f)).f1 == zDe (fc t a f).f1) = b
        cases b with
        | false => refine ZD (by simp) ?_; rw [Bool.false_and]; exact Ev.now false
        | true =>
          refine ql rfl ?_
          rw [Bool.true_and]
          by_cases ha : (fc t a f).f0 = a
          · refine ql ha (Qz ?_)
            rw [ha]; simp [bne]
          · refine ZD ha (Qz ?_)
            simp [ha]
      · rw [if_neg (by omega)]
        have e : (!(decide (0 ≤ (fc t a f).f1) && decide ((fc t a f).f1 ≤ 23))) = true := by
          rw [Bool.not_eq_true', Bool.and_eq_false_iff, decide_eq_false_iff_not, decide_eq_false_iff_not]; omega
        rw [e]
        exact hfalse
    · rw [if_neg (by omega)]
      refine ZD ?_ hfalse
      rw [Bool.and_eq_true, decide_eq_true_eq, decide_eq_true_eq]; omega
theorem zBN (h4 : ∀ r ∈ t, r.length = 4) (hn : t.length ≤ 8) {a : Int} (h0 : 0 ≤ a) (h1 : a < t.length) {R : Bool} (hR : Ev (fun k => zT.l0 k (t.length : Int) (a + 1) t) R) :
    ∀ (d : Nat) (f : Int), 0 ≤ f → f + d = 4 → Ev (fun k => zT.l1 k a (t.length : Int) a f t) (Qq t a f d && R)
  | 0, f, hf, he => by
    refine qi (fun k => by rw [zT.l1, if_neg (by omega), qw (by omega) (by omega)]) ?_
    rw [Qq, Bool.true_and]; exact hR
  | d + 1, f, hf, he => by
    refine qi (fun k => by rw [zT.l1, if_pos (by omega)]) ?_
    refine Ev.bind (zB5 h4 hn h0 h1 hf (by omega)) ?_
    rw [Qq]
    cases hg : zAQ t a f with
    | false => exact ZD (by simp) (by rw [Bool.false_and, Bool.false_and]; exact Ev.now false)
    | true =>
      refine ql rfl ?_
      rw [Bool.true_and]
      exact Ev.congr (fun k => by rw [qw (by omega) (by omega)]) (zBN h4 hn h0 h1 hR d (f + 1) (by omega) (by omega))
theorem zBO (h4 : ∀ r ∈ t, r.length = 4) (hn : t.length ≤ 8) : ∀ (d : Nat) (a : Int), 0 ≤ a → a + d = t.length → Ev (fun k => zT.l0 k (t.length : Int) a t) (Jf t a d)
  | 0, a, ha, he => by
    refine qi (fun k => by rw [zT.l0, if_neg (by omega)]) ?_
    exact Ev.now true
  | d + 1, a, ha, he => by
    refine qi (fun k => by rw [zT.l0, if_pos (by omega)]) ?_
    rw [Jf]
    exact zBN h4 hn ha (by omega) (zBO h4 hn d (a + 1) (by omega) (by omega)) 4 0 (by omega) (by omega)
theorem zBy : t.all (fun r => decide (r.length = 4)) = true ↔ ∀ r ∈ t, r.length = 4 := by simp
theorem zEP (h : Small t) : zl.f t = some (!(t.all fun r => decide (r.length = 4))) := by
  unfold zl.f qA.f
  rw [contO (p := fun r => !(decide (r.length = 4))) t (fun r _ => by
    show qg.f r = _
    unfold qg.f
    congr 1
    by_cases h : r.length = 4
    · simp [h]
    · have : ¬ ((r.length : Int) = 4) := by omega
      simp [h, this]), List.not_all_eq_any_not]
theorem zBz (h : Small t) : Ev (fun k => zT.f k t) (QE t) := by
  have hfalse : Ev (fun k => zT.j0 k true t) false := qi (fun k => by rw [zT.j0, if_pos rfl]) (Ev.now false)
  unfold QE
  by_cases h8 : t.length ≤ 8
  · refine Ev.congr (fun k => by unfold zT.f; rw [if_neg (by omega), zEP h, yfy]) ?_
    rw [ygy h8, Bool.true_and]
    cases hall : t.all (fun r => decide (r.length = 4)) with
    | false => rw [Bool.false_and]; exact hfalse
    | true =>
      rw [Bool.true_and]
      refine qi (fun k => by rw [zT.j0, if_neg (by simp)]) ?_
      exact zBO (zBy.1 hall) h8 t.length 0 (by omega) (by omega)
  · refine Ev.congr (fun k => by unfold zT.f; rw [if_pos (by omega)]) ?_
    rw [yhy h8, Bool.false_and]; exact hfalse
theorem zBP (h4 : ∀ r ∈ t, r.length = 4) (hn : t.length ≤ 8) {a : Int} (h0 : 0 ≤ a) (h1 : a < t.length) {R : Bool} (hR : Ev (fun k => zK.l1 k (a + 1) t) R) :
    ∀ (d : Nat) (f : Int), 0 ≤ f → f + d = 4 → Ev (fun k => zK.l2 k a f t) (Qq t a f d && R)
  | 0, f, hf, he => by
    refine qi (fun k => by rw [zK.l2, if_neg (by omega), qw (by omega) (by omega)]) ?_
    rw [Qq, Bool.true_and]; exact hR
  | d + 1, f, hf, he => by
    have hr := zFY h4 h0 h1
    have ih : Ev (fun k => zK.l2 k a (wrap64 (f + 1)) t) (Qq t a (f + 1) d && R) := Ev.congr (fun k => by rw [qw (by omega) (by omega)]) (zBP h4 hn h0 h1 hR d (f + 1) (by omega) (by omega))
    refine qi (fun k => by rw [zK.l2, if_pos (by omega), if_pos h0, if_pos h1, if_pos hf, if_pos (by omega)]) ?_
    change Ev (fun k => if (fc t a f).f0 = -1 then zK.j3 k a f ((fc t a f).f1 == 0) t (fc t a f).f0 (fc t a f).f1 else zK.j3 k a f false t (fc t a f).f0 (fc t a f).f1) _
    rw [Qq]
    have hstop : ∀ b, Ev (fun k => zK.j4 k a f true t (fc t a f).f0 (fc t a f).f1) (false && b) := fun b => by
      rw [Bool.false_and]; exact qi (fun k => by rw [zK.j4, if_pos rfl]) (Ev.now false)
    have hgo : Ev (fun k => zK.j3 k a f true t (fc t a f).f0 (fc t a f).f1) (Qq t a (f + 1) d && R) := qi (fun k => by rw [zK.j3, if_pos rfl]) ih
    have hrest : (¬ ((fc t a f).f0 = -1 ∧ (fc t a f).f1 = 0)) → Ev (fun k => zK.j3 k a f false t (fc t a f).f0 (fc t a f).f1) (zAQ t a f && Qq t a (f + 1) d && R) := by
      intro hnb
      refine qi (fun k => by rw [zK.j3, zu.f, if_neg (by simp), yfy, zEx, yfy, qw (by omega) (by omega)]) ?_
      unfold zAQ
      by_cases hi : 0 ≤ (fc t a f).f0 ∧ (fc t a f).f0 < (t.length : Int)
      · refine ql (by simp; omega) ?_
        refine Ev.bind (JA (zCv _)) ?_
        rw [if_neg (by omega)]
        by_cases hp : 0 ≤ (fc t a f).f1 ∧ (fc t a f).f1 ≤ 23
        · rw [if_pos ⟨hi.1, hi.2, hp.1, hp.2⟩]
          have e : (!(decide (0 ≤ (fc t a f).f1) && decide ((fc t a f).f1 ≤ 23))) = false := by simp [hp]
          rw [e]
          obtain ⟨hg0, hg1⟩ := zA0 hp.1 hp.2 hf (by omega)
          have hr2 := zFY h4 hi.1 hi.2
          refine qi (fun k => by rw [zK.j4, if_neg (by simp)]) ?_
          refine Ev.bind (zAV hp.1 hp.2 hf (by omega)) ?_
          refine Ev.bind (zDi hp.1 hp.2) ?_
          refine ql hi.1 (ql hi.2 (ql hg0 (ql (by rw [hr2]; omega) ?_)))
          change Ev (fun k => if (!((fc t (fc t a f).f0 (rd (ZF (fc t a f).f1) f)).f0 == a) || !((fc t (fc t a f).f0 (rd (ZF (fc t a f).f1) f)).f1 == zDe (fc t a f).f1)) = true then _ else _) _
          generalize ((fc t (fc t a f).f0 (rd (ZF (fc t a f).f1) f)).f0 == a) = b1
          generalize ((fc t (fc t a f).f0 (rd (ZF (fc t a f).f1) f)).f1 == zDe (fc t a f).f1) = b2
          cases b1 with
          | false => exact ql rfl (by rw [Bool.false_and, Bool.false_and, Bool.false_and, Bool.false_and]; exact Ev.now false)
          | true =>
            cases b2 with
            | false => exact ql rfl (by rw [Bool.true_and, Bool.false_and, Bool.false_and, Bool.false_and]; exact Ev.now false)
            | true =>
              refine ZD (by simp) ?_
              rw [Bool.true_and, Bool.true_and]
              by_cases ha : (fc t a f).f0 = a
              · refine ql ha ?_
                by_cases hg : rd (ZF (fc t a f).f1) f = f
                · refine ql hg ?_
                  rw [ha, hg]
                  simp
                  exact Ev.now false
                · refine ZD hg ?_
                  have : (rd (ZF (fc t a f).f1) f == f) = false := by simp [hg]
                  rw [this, Bool.and_false, Bool.not_false, Bool.true_and]
                  exact ih
              · refine ZD ha ?_
                have : ((fc t a f).f0 == a) = false := by simp [ha]
                rw [this, Bool.false_and, Bool.not_false, Bool.true_and]
                exact ih
        · rw [if_neg (by omega)]
          have e : (!(decide (0 ≤ (fc t a f).f1) && decide ((fc t a f).f1 ≤ 23))) = true := by
            rw [Bool.not_eq_true', Bool.and_eq_false_iff, decide_eq_false_iff_not, decide_eq_false_iff_not]; omega
          rw [e, Bool.false_and]
          exact hstop R
      · have hg : (if (fc t a f).f0 = -1 then ((fc t a f).f1 == 0) else if 0 ≤ (fc t a f).f0 ∧ (fc t a f).f0 < (t.length : Int) ∧ 0 ≤ (fc t a f).f1 ∧ (fc t a f).f1 ≤ 23 then
            ((fc t (fc t a f).f0 (rd (ZF (fc t a f).f1) f)).f0 == a && (fc t (fc t a f).f0 (rd (ZF (fc t a f).f1) f)).f1 == zDe (fc t a f).f1) && !((fc t a f).f0 == a && rd (ZF (fc t a f).f1) f == f) else false) = false := by
          by_cases hb : (fc t a f).f0 = -1
          · rw [if_pos hb]; simp; intro h; exact hnb ⟨hb, h⟩
          · rw [if_neg hb, if_neg (by omega)]
        rw [hg, Bool.false_and]
        refine ZD ?_ (hstop R)
        rw [Bool.and_eq_true, decide_eq_true_eq, decide_eq_true_eq]; omega
    by_cases hb : (fc t a f).f0 = -1
    · refine ql hb ?_
      by_cases h0' : (fc t a f).f1 = 0
      · have e : zAQ t a f = true := by unfold zAQ; rw [if_pos hb]; simp [h0']
        rw [e, Bool.true_and]
        have e2 : ((fc t a f).f1 == 0) = true := by simp [h0']
        rw [e2]; exact hgo
      · have e2 : ((fc t a f).f1 == 0) = false := by simp [h0']
        rw [e2]; exact hrest (fun h => h0' h.2)
    · exact ZD hb (hrest (fun h => hb h.1))
theorem zBQ (h4 : ∀ r ∈ t, r.length = 4) (hn : t.length ≤ 8) : ∀ (d : Nat) (a : Int), 0 ≤ a → a + d = t.length → Ev (fun k => zK.l1 k a t) (Jf t a d)
  | 0, a, ha, he => by
    refine qi (fun k => by rw [zK.l1, zu.f, yfy, if_neg (by omega)]) ?_
    exact Ev.now true
  | d + 1, a, ha, he => by
    refine qi (fun k => by rw [zK.l1, zu.f, yfy, if_pos (by omega)]) ?_
    rw [Jf]
    exact zBP h4 hn ha (by omega) (zBQ h4 hn d (a + 1) (by omega) (by omega)) 4 0 (by omega) (by omega)
theorem zDm (h8 : t.length ≤ 8) (d : Nat) : ∀ n : Nat, n + d = t.length → (t.all (fun r => decide (r.length = 4)) = (t.drop n).all (fun r => decide (r.length = 4))) → Ev (fun k => zK.l0 k (n : Int) t) (t.all (fun r => decide (r.length = 4)) && Jf t 0 t.length) := by
  induction d with
  | zero =>
    intro n hn ha
    refine qi (fun k => by rw [zK.l0, if_neg (by omega)]) ?_
    have hall : t.all (fun r => decide (r.length = 4)) = true := by rw [ha, List.drop_eq_nil_of_le (by omega)]; rfl
    rw [hall, Bool.true_and]
    exact zBQ (zBy.1 hall) h8 t.length 0 (by omega) (by omega)
  | succ d ih =>
    intro n hn ha
    have hlt : n < t.length := by omega
    refine qi (fun k => by rw [zK.l0, if_pos (by omega), if_pos (by omega), Qd t n hlt]) ?_
    rw [yoy hlt, List.all_cons] at ha
    by_cases h : t[n].length = 4
    · refine ql (by omega) ?_
      refine Ev.congr (fun k => by rw [ZK (by omega)]) (ih (n + 1) (by omega) ?_)
      rw [ha, ygy h, Bool.true_and]
    · refine ZD (by omega) ?_
      rw [ha, yhy h, Bool.false_and, Bool.false_and]
      exact Ev.now false
theorem zC0 (t : Tri) : Ev (fun k => zK.f k t) (QE t) := by
  refine Ev.congr (fun k => by unfold zK.f zu.f; rw [yfy]) ?_
  unfold QE
  by_cases h8 : t.length ≤ 8
  · refine ZD (by omega) ?_
    rw [ygy h8, Bool.true_and]
    exact zDm h8 t.length 0 (by omega) (by rw [List.drop_zero])
  · refine ql (by omega) ?_
    rw [yhy h8, Bool.false_and]
    exact Ev.now false
end
theorem ZZ {t : Tri} (h : QE t = true) : t.length ≤ 8 ∧ (∀ r ∈ t, r.length = 4) ∧ Jf t 0 t.length = true := by
  unfold QE at h
  rw [Bool.and_eq_true, Bool.and_eq_true, decide_eq_true_eq] at h
  exact ⟨h.1, zBy.1 h.2.1, h.2.2⟩
theorem zEQ (t : Tri) (a : Int) (d : Nat) : ∀ f, Qq t a f d = true → ∀ g, f ≤ g → g < f + d → zAQ t a g = true := by
  induction d with
  | zero => intro f _ g h1 h2; omega
  | succ d ih =>
    intro f h g h1 h2
    rw [Qq, Bool.and_eq_true] at h
    by_cases e : g = f
    · rw [e]; exact h.1
    · exact ih (f + 1) h.2 g (by omega) (by omega)
theorem zER (t : Tri) (d : Nat) : ∀ a, Jf t a d = true → ∀ b, a ≤ b → b < a + d → ∀ g, 0 ≤ g → g ≤ 3 → zAQ t b g = true := by
  induction d with
  | zero => intro a _ b h1 h2; omega
  | succ d ih =>
    intro a h b h1 h2 g hg0 hg1
    rw [Jf, Bool.and_eq_true] at h
    by_cases e : b = a
    · rw [e]; exact zEQ t a 4 0 h.1 g hg0 (by omega)
    · exact ih (a + 1) h.2 b (by omega) (by omega) g hg0 hg1
theorem zA4 {t : Tri} (h : QE t = true) {a f : Int} (h0 : 0 ≤ a) (h1 : a < t.length) (hf0 : 0 ≤ f) (hf1 : f ≤ 3) :
    ((fc t a f).f0 = -1 ∧ (fc t a f).f1 = 0) ∨
    ((0 ≤ (fc t a f).f0 ∧ (fc t a f).f0 < (t.length : Int) ∧ 0 ≤ (fc t a f).f1 ∧ (fc t a f).f1 ≤ 23) ∧
      (fc t (fc t a f).f0 (rd (ZF (fc t a f).f1) f)).f0 = a ∧ (fc t (fc t a f).f0 (rd (ZF (fc t a f).f1) f)).f1 = zDe (fc t a f).f1 ∧ ¬ ((fc t a f).f0 = a ∧ rd (ZF (fc t a f).f1) f = f)) := by
  have hg := zER t t.length 0 (ZZ h).2.2 a h0 (by omega) f hf0 hf1
  unfold zAQ at hg
  by_cases hb : (fc t a f).f0 = -1
  · rw [if_pos hb] at hg
    exact .inl ⟨hb, by simpa using hg⟩
  · rw [if_neg hb] at hg
    by_cases hi : 0 ≤ (fc t a f).f0 ∧ (fc t a f).f0 < (t.length : Int) ∧ 0 ≤ (fc t a f).f1 ∧ (fc t a f).f1 ≤ 23
    · rw [if_pos hi, Bool.and_eq_true, Bool.and_eq_true, Bool.not_eq_true'] at hg
      refine .inr ⟨hi, eq_of_beq hg.1.1, eq_of_beq hg.1.2, fun hc => ?_⟩
      have := hg.2
      rw [Bool.and_eq_false_iff] at this
      rcases this with h2 | h2
      · exact absurd hc.1 (by simpa using h2)
      · exact absurd hc.2 (by simpa using h2)
    · rw [if_neg hi] at hg; cases hg
def zES (cols : Nat) (j f b : Int) (p : List Int) : List (List Int) := (zDa [f]).map fun c => zCh cols j f b p c
theorem zBR (cols : Nat) (j f b : Int) (p : List Int) : ∀ (L : List Int) (A : List (List Int)), QU cols j f b p L (A.flatten, (A.length : Int)) = ((A ++ L.map fun c => zCh cols j f b p c).flatten, ((A ++ L.map fun c => zCh cols j f b p c).length : Int))
 | [], A => by simp [QU]
 | c :: cs, A => by
  have h := zBR cols j f b p cs (A ++ [zCh cols j f b p c])
  have e1 : (A ++ [zCh cols j f b p c]).flatten = A.flatten ++ zCh cols j f b p c := by simp
  have e2 : ((A ++ [zCh cols j f b p c]).length : Int) = (A.length : Int) + 1 := by simp
  rw [e1, e2] at h
  rw [QU, h]
  simp
def zET (cols : Nat) (A : List (List Int)) (j f : Nat) (x : qI) : List (List Int) :=
 if 4 * x.f0 + rd (ZF x.f1) (f : Int) < 4 * (j : Int) + (f : Int) then A else A ++ zES cols j f x.f0 (ZF x.f1)
theorem zDJ {σ τ : Type} {Rel : σ → τ → Prop} {s1 : σ → Nat → Nat → qI → σ} {s2 : τ → Nat → Nat → qI → τ} (h : ∀ a b j f x, Rel a b → Rel (s1 a j f x) (s2 b j f x)) (j : Nat) : ∀ (r : List qI) (f : Nat) (a : σ) (b : τ), Rel a b → Rel (zDb s1 j r f a) (zDb s2 j r f b)
 | [], _, _, _, hr => hr
 | x :: xs, f, a, b, hr => by
  rw [zDb, zDb]
  refine zDJ h j xs (f + 1) _ _ ?_
  split
  next =>
   exact hr
  next =>
   exact h _ _ _ _ _ hr
theorem zDK {σ τ : Type} {Rel : σ → τ → Prop} {s1 : σ → Nat → Nat → qI → σ} {s2 : τ → Nat → Nat → qI → τ} (h : ∀ a b j f x, Rel a b → Rel (s1 a j f x) (s2 b j f x)) : ∀ (l : List (List qI)) (j : Nat) (a : σ) (b : τ), Rel a b → Rel (zBu s1 l j a) (zBu s2 l j b)
 | [], _, _, _, hr => hr
 | r :: rs, j, a, b, hr => by
  rw [zBu, zBu]
  exact zDK h rs (j + 1) _ _ (zDJ h j r 0 a b hr)
def JM (t : Tri) : List (List Int) := zBu (zET (7 * t.length)) t 0 []
theorem zEy (t : Tri) : zB3 t = ((JM t).flatten, ((JM t).length : Int)) := by
 refine zDK (Rel := fun (a : List Int × Int) (b : List (List Int)) => a = (b.flatten, (b.length : Int))) (fun a b j f x hr => ?_) t 0 ([], 0) [] (by simp)
 rw [hr]
 unfold Jz zET
 split
 next =>
  rfl
 next =>
  exact zBR _ _ _ _ _ _ _
def zAR (t : Tri) (a f : Int) : Prop := (fc t a f).f0 > a ∨ ((fc t a f).f0 = a ∧ rd (ZF (fc t a f).f1) f > f)
instance (t : Tri) (a f : Int) : Decidable (zAR t a f) := by unfold zAR; infer_instance
def QV (t : Tri) (a : Int) : Int → Nat → List (List Int)
 | _, 0 => []
 | f, d + 1 => (if zAR t a f then [[a, f]] else []) ++ QV t a (f + 1) d
def QR (t : Tri) : Int → Nat → List (List Int)
 | _, 0 => []
 | a, d + 1 => QV t a 0 4 ++ QR t (a + 1) d
def zC1 (t : Tri) (p : List Int) : List (List Int) := zES (7 * t.length) (rd p 0) (rd p 1) (fc t (rd p 0) (rd p 1)).f0 (ZF (fc t (rd p 0) (rd p 1)).f1)
theorem zFQ {t : Tri} (h : QE t = true) {a f : Int} (h0 : 0 ≤ a) (h1 : a < t.length) (hf0 : 0 ≤ f) (hf1 : f ≤ 3) (hb : ¬ (fc t a f).f0 < 0) : zAR t a f ↔ ¬ (4 * (fc t a f).f0 + rd (ZF (fc t a f).f1) f < 4 * a + f) := by
 rcases zA4 h h0 h1 hf0 hf1 with ⟨e, _⟩ | ⟨⟨g0, g1, g2, g3⟩, _, _, hn⟩
 next =>
  omega
 next =>
  obtain ⟨k0, k1⟩ := zA0 g2 g3 hf0 hf1
  unfold zAR
  generalize (fc t a f).f0 = b at *
  generalize rd (ZF (fc t a f).f1) f = g at *
  by_cases e : b = a
  next =>
   have : ¬ g = f := fun hc => hn ⟨e, hc⟩
   constructor <;> intro hh <;> omega
  next =>
   constructor <;> intro hh <;> omega
theorem zBS {t : Tri} (h : QE t = true) (j : Nat) (hj : j < t.length) : ∀ (d f : Nat) (A : List (List Int)), f + d = 4 → zDb (zET (7 * t.length)) j (t[j].drop f) f A = A ++ (QV t j f d).flatMap (zC1 t)
 | 0, f, A, hf => by
  have h4 : t[j].length = 4 := (ZZ h).2.1 _ (List.getElem_mem hj)
  rw [List.drop_eq_nil_of_le (by omega), zDb, QV]; simp
 | d + 1, f, A, hf => by
  have h4 : t[j].length = 4 := (ZZ h).2.1 _ (List.getElem_mem hj)
  have hlt : f < t[j].length := by omega
  have hfc : fc t (j : Int) (f : Int) = t[j][f] := by unfold fc; rw [Qd t j hj, zBL _ f hlt]
  rw [yoy hlt, zDb, zBS h j hj d (f + 1) _ (by omega), QV]
  have e1 : ((f : Int) + 1) = ((f + 1 : Nat) : Int) := by omega
  rw [e1, List.flatMap_append, ← List.append_assoc]
  congr 1
  have hff := zFQ (a := (j : Int)) (f := (f : Int)) h (by omega) (by omega) (by omega) (by omega)
  by_cases hb : t[j][f].f0 < 0
  next =>
   rw [if_pos hb, if_neg (fun hc => by unfold zAR at hc; rw [hfc] at hc; omega)]; simp
  next =>
   rw [if_neg hb]
   have hff2 := hff (by rw [hfc]; exact hb)
   rw [hfc] at hff2
   unfold zET
   by_cases hc : 4 * t[j][f].f0 + rd (ZF t[j][f].f1) (f : Int) < 4 * (j : Int) + (f : Int)
   next =>
    rw [if_pos hc, if_neg (fun hq => (hff2.1 hq) hc)]; simp
   next =>
    rw [if_neg hc, if_pos (hff2.2 hc)]
    have e2 : zC1 t [(j : Int), (f : Int)] = zES (7 * t.length) (j : Int) (f : Int) t[j][f].f0 (ZF t[j][f].f1) := by
     show zES (7 * t.length) (j : Int) (f : Int) (fc t (j : Int) (f : Int)).f0 (ZF (fc t (j : Int) (f : Int)).f1) = _
     rw [hfc]
    simp [e2]
theorem zBT {t : Tri} (h : QE t = true) : ∀ (d j : Nat) (A : List (List Int)), j + d = t.length → zBu (zET (7 * t.length)) (t.drop j) j A = A ++ (QR t j d).flatMap (zC1 t)
 | 0, j, A, hj => by rw [List.drop_eq_nil_of_le (by omega), zBu, QR]; simp
 | d + 1, j, A, hj => by
  have hlt : j < t.length := by omega
  have e1 : ((j : Int) + 1) = ((j + 1 : Nat) : Int) := by omega
  have h2 := zBS h j hlt 4 0 A (by omega)
  rw [List.drop_zero] at h2
  rw [yoy hlt, zBu, h2, zBT h d (j + 1) _ (by omega), QR, List.flatMap_append, List.append_assoc, e1]
  rfl
theorem Jn {t : Tri} (h : QE t = true) : JM t = (QR t 0 t.length).flatMap (zC1 t) := by
 have := zBT h t.length 0 [] (by omega)
 rw [List.drop_zero, List.nil_append] at this
 exact this
theorem zEz {t : Tri} (h : QE t = true) : zFX t := by
 obtain ⟨h8, h4, _⟩ := ZZ h
 refine ⟨h8, fun r hr => by rw [h4 r hr]; omega, fun r hr x hx hb => ?_⟩
 obtain ⟨j, hj, rfl⟩ := List.getElem_of_mem hr
 obtain ⟨f, hf, rfl⟩ := List.getElem_of_mem hx
 have h4' := h4 _ (List.getElem_mem hj)
 have hfc : fc t (j : Int) (f : Int) = t[j][f] := by unfold fc; rw [Qd t j hj, zBL _ f hf]
 have := zA4 (a := (j : Int)) (f := (f : Int)) h (by omega) (by omega) (by omega) (by omega)
 rw [hfc] at this
 rcases this with ⟨e, _⟩ | ⟨⟨g0, g1, g2, g3⟩, _⟩
 next =>
  omega
 next =>
  exact ⟨g1, g2, g3⟩
theorem zDn {t : Tri} (h : QE t = true) : zw.f t = some (((JM t).length : Int), 7 * (t.length : Int), (JM t).flatten) := by
 unfold zw.f
 rw [if_pos (zEz h), zEy]
theorem zAn {t : Tri} (h : QE t = true) : ∀ r ∈ JM t, r.length = 7 * t.length := by
 intro r hr
 rw [Jn h] at hr
 obtain ⟨p, _, hp⟩ := List.mem_flatMap.1 hr
 obtain ⟨c, _, rfl⟩ := List.mem_map.1 hp
 exact zCs _ _ _ _ _ _
theorem zBU (t : Tri) (a : Int) : ∀ (d : Nat) (f : Int), (QV t a f d).length ≤ d
 | 0, _ => by simp [QV]
 | d + 1, f => by
  have := zBU t a d (f + 1)
  rw [QV, List.length_append]
  split <;> simp <;> omega
theorem zAF (t : Tri) : ∀ (d : Nat) (a : Int), (QR t a d).length ≤ 4 * d
 | 0, _ => by simp [QR]
 | d + 1, a => by
  have := zAF t d (a + 1)
  have := zBU t a 4 0
  rw [QR, List.length_append]
  omega
def zEU (t : Tri) (p : List Int) : Prop := ∃ a f : Int, p = [a, f] ∧ 0 ≤ a ∧ a < t.length ∧ 0 ≤ f ∧ f ≤ 3 ∧ ¬ (fc t a f).f0 < 0
theorem zCT (t : Tri) {a : Int} (h0 : 0 ≤ a) (h1 : a < t.length) : ∀ (d : Nat) (f : Int), 0 ≤ f → f + d = 4 → ∀ p ∈ QV t a f d, zEU t p
 | 0, _, _, _, p, hp => by simp [QV] at hp
 | d + 1, f, hf, he, p, hp => by
  rw [QV, List.mem_append] at hp
  rcases hp with hp | hp
  next =>
   by_cases hc : zAR t a f
   next =>
    rw [if_pos hc] at hp
    have : p = [a, f] := by simpa using hp
    exact ⟨a, f, this, h0, h1, hf, by omega, by unfold zAR at hc; omega⟩
   next =>
    rw [if_neg hc] at hp; simp at hp
  next =>
   exact zCT t h0 h1 d (f + 1) (by omega) (by omega) p hp
theorem zCU (t : Tri) : ∀ (d : Nat) (a : Int), 0 ≤ a → a + d = t.length → ∀ p ∈ QR t a d, zEU t p
 | 0, _, _, _, p, hp => by simp [QR] at hp
 | d + 1, a, ha, he, p, hp => by
  rw [QR, List.mem_append] at hp
  rcases hp with hp | hp
  next =>
   exact zCT t ha (by omega) 4 0 (by omega) (by omega) p hp
  next =>
   exact zCU t d (a + 1) (by omega) (by omega) p hp
section
variable {t : Tri}
theorem Jo (h : QE t = true) {a : Int} (h0 : 0 ≤ a) (h1 : a < t.length) {R : List (List Int)} {D : Nat} (hR : ∀ acc : List (List Int), acc.length + D ≤ 100 → Ev (fun k => zn.l0 k acc (a + 1) t) (acc ++ R)) :
 ∀ (d : Nat) (f : Int) (acc : List (List Int)), 0 ≤ f → f + d = 4 → acc.length + d + D ≤ 100 → Ev (fun k => zn.l1 k acc a f t) (acc ++ QV t a f d ++ R)
 | 0, f, acc, hf, he, hl => by
  have h8 := (ZZ h).1
  refine qi (fun k => by rw [zn.l1, if_neg (by omega), qw (by omega) (by omega)]) ?_
  rw [QV, List.append_nil]; exact hR acc (by omega)
 | d + 1, f, acc, hf, he, hl => by
  obtain ⟨h8, h4, _⟩ := ZZ h
  have hr := zFY h4 h0 h1
  refine qi (fun k => by rw [zn.l1, if_pos (by omega), if_pos h0, if_pos h1, if_pos hf, if_pos (by omega)]) ?_
  rw [QV]
  have hyes : zAR t a f → Ev (fun k => if acc.length < 5864062014805 then zn.l1 k (acc ++ [[a, f]]) a (wrap64 (f + 1)) t else none) (acc ++ ((if zAR t a f then [[a, f]] else []) ++ QV t a (f + 1) d) ++ R) := fun hc => by
   rw [if_pos hc]
   refine ql (by omega) (Ev.congr (fun k => by rw [qw (by omega) (by omega)]) ?_)
   have := Jo h h0 h1 hR d (f + 1) (acc ++ [[a, f]]) (by omega) (by omega) (by simp; omega)
   rwa [List.append_assoc acc] at this
  have hno : ¬ zAR t a f → Ev (fun k => zn.l1 k acc a (wrap64 (f + 1)) t) (acc ++ ((if zAR t a f then [[a, f]] else []) ++ QV t a (f + 1) d) ++ R) := fun hc => by
   rw [if_neg hc, List.nil_append]
   exact Ev.congr (fun k => by rw [qw (by omega) (by omega)]) (Jo h h0 h1 hR d (f + 1) acc (by omega) (by omega) (by omega))
  change Ev (fun k => if (fc t a f).f0 > a then _ else if (fc t a f).f0 = a then (qv.f k (fc t a f).f1 f).bind _ else _) _
  by_cases c1 : (fc t a f).f0 > a
  next =>
   exact ql c1 (hyes (.inl c1))
  next =>
   refine ZD c1 ?_
   by_cases c2 : (fc t a f).f0 = a
   next =>
    have hp : 0 ≤ (fc t a f).f1 ∧ (fc t a f).f1 ≤ 23 := by
     rcases zA4 h h0 h1 hf (by omega) with ⟨e, _⟩ | ⟨⟨_, _, g2, g3⟩, _⟩
     next =>
      omega
     next =>
      exact ⟨g2, g3⟩
    refine ql c2 (Ev.bind (zAV hp.1 hp.2 hf (by omega)) ?_)
    by_cases c3 : rd (ZF (fc t a f).f1) f > f
    next =>
     exact ql c3 (hyes (.inr ⟨c2, c3⟩))
    next =>
     exact ZD c3 (hno (fun hc => by rcases hc with hc | hc; exact c1 hc; exact c3 hc.2))
   next =>
    exact ZD c2 (hno (fun hc => by rcases hc with hc | hc; exact c1 hc; exact c2 hc.1))
theorem zAo (h : QE t = true) : ∀ (d : Nat) (a : Int) (acc : List (List Int)), 0 ≤ a → a + d = t.length → acc.length + 4 * d ≤ 100 → Ev (fun k => zn.l0 k acc a t) (acc ++ QR t a d)
 | 0, a, acc, ha, he, hl => by
  refine qi (fun k => by rw [zn.l0, zu.f, yfy, if_neg (by omega)]) ?_
  rw [QR, List.append_nil]; exact Ev.now _
 | d + 1, a, acc, ha, he, hl => by
  refine qi (fun k => by rw [zn.l0, zu.f, yfy, if_pos (by omega)]) ?_
  have := Jo h ha (by omega) (R := QR t (a + 1) d) (D := 4 * d) (fun acc2 hl2 => zAo h d (a + 1) acc2 (by omega) (by omega) hl2) 4 0 acc (by omega) (by omega) (by omega)
  rwa [List.append_assoc] at this
theorem zC2 (h : QE t = true) : Ev (fun k => zn.f k t) (QR t 0 t.length) := by
 have h8 := (ZZ h).1
 have := zAo h t.length 0 [] (by omega) (by omega) (by simp; omega)
 rwa [List.nil_append] at this
theorem zBV {a b : Int} (ha : sm a) (hb : sm b) (hne : b ≠ a) : qD.f a b = some (qd b a) := by
 obtain ⟨ha0, ha1⟩ := ha
 obtain ⟨hb0, hb1⟩ := hb
 rcases (show a = 0 ∨ a = 1 ∨ a = 2 ∨ a = 3 by omega) with rfl | rfl | rfl | rfl <;> rcases (show b = 0 ∨ b = 1 ∨ b = 2 ∨ b = 3 by omega) with rfl | rfl | rfl | rfl <;> first | exact absurd rfl hne | decide +kernel
theorem qd_bd {a b : Int} (ha : sm a) (hb : sm b) (hne : a ≠ b) : 0 ≤ qd a b ∧ qd a b ≤ 2 := (zCr ha hb hne).2
theorem zBW (h : QE t = true) {P : List (List Int)} {i : Int} {a f : Int} (h0 : 0 ≤ a) (h1 : a < t.length) (hf0 : 0 ≤ f) (hf1 : f ≤ 3) (hb : ¬ (fc t a f).f0 < 0) {R : List (List Int)} {D : Nat} (hi : 0 ≤ i) (hi2 : i ≤ 1000)
 (hR : ∀ acc : List (List Int), acc.length + D ≤ 1000 → Ev (fun k => zm.l0 k acc P (i + 1) t) (acc ++ R)) :
 ∀ (d : Nat) (c : Int) (acc : List (List Int)), 0 ≤ c → c + d = 4 → acc.length + d + D ≤ 1000 → Ev (fun k => zm.l1 k acc P i a f c t) (acc ++ ((zCR c d).filter fun x => ![f].contains x).map (fun x => zCh (7 * t.length) a f (fc t a f).f0 (ZF (fc t a f).f1) x) ++ R)
 | 0, c, acc, hc, he, hl => by
  refine qi (fun k => by rw [zm.l1, if_neg (by omega), qw (by omega) (by omega)]) ?_
  rw [zCR]; simp only [List.filter_nil, yky, List.append_nil]; exact hR acc (by omega)
 | d + 1, c, acc, hc, he, hl => by
  obtain ⟨h8, h4, _⟩ := ZZ h
  have ih := fun (acc2 : List (List Int)) (hl2 : acc2.length + d + D ≤ 1000) => zBW h h0 h1 hf0 hf1 hb hi hi2 hR d (c + 1) acc2 (by omega) (by omega) hl2
  by_cases hcf : c = f
  next =>
   refine qi (fun k => by rw [zm.l1, if_pos (by omega), if_pos hcf, qw (by omega) (by omega)]) ?_
   have e1 : (![f].contains c) = false := by simp [hcf]
   rw [zCR, List.filter_cons, e1, if_neg (by simp)]
   exact ih acc (by omega)
  next =>
   have e1 : (![f].contains c) = true := by simp [hcf]
   have hsc : sm c := ⟨hc, by omega⟩
   have hsf : sm f := ⟨hf0, hf1⟩
   obtain ⟨g0, g1, g2, g3⟩ : 0 ≤ (fc t a f).f0 ∧ (fc t a f).f0 < (t.length : Int) ∧ 0 ≤ (fc t a f).f1 ∧ (fc t a f).f1 ≤ 23 := by
    rcases zA4 h h0 h1 hf0 hf1 with ⟨e, _⟩ | ⟨e, _⟩
    next =>
     omega
    next =>
     exact e
   have hd := zA0 g2 g3 hc (show c ≤ 3 by omega)
   have hx := zA0 g2 g3 hf0 hf1
   have hne := zCM g2 g3 hsc hsf hcf
   obtain ⟨q0, q1⟩ := qd_bd hsc hsf hcf
   obtain ⟨r0, r1⟩ := qd_bd hd hx hne
   have hmr : zCh (7 * t.length) a f (fc t a f).f0 (ZF (fc t a f).f1) c = zAD (zAD (Jy (Jy (List.replicate (7 * t.length) 0) (7 * a + c)) (7 * a + 4 + qd c f)) (7 * (fc t a f).f0 + rd (ZF (fc t a f).f1) c)) (7 * (fc t a f).f0 + 4 + qd (rd (ZF (fc t a f).f1) c) (rd (ZF (fc t a f).f1) f)) := rfl
   have hcorner : Ev (fun k => qY.f k t a f c) ((fc t a f).f0, rd (ZF (fc t a f).f1) f, rd (ZF (fc t a f).f1) c) := by
    have hr := zFY h4 h0 h1
    refine Ev.congr (fun k => by unfold qY.f; rw [if_pos h0, if_pos h1, if_pos hf0, if_pos (by omega)]) ?_
    exact Ev.bind (zAV g2 g3 hf0 hf1) (Ev.bind (zAV g2 g3 hc (by omega)) (Ev.now _))
   have hbt1 := zBV hsf hsc hcf
   have hbt2 := zBV (show sm (rd (ZF (fc t a f).f1) f) from hx) (show sm (rd (ZF (fc t a f).f1) c) from hd) hne
   have hlt : (7 * (t.length : Int)) = ((7 * t.length : Nat) : Int) := by omega
   rw [zCR, List.filter_cons, e1, if_pos rfl, yjy, hmr]
   generalize (fc t a f).f0 = b at *
   generalize rd (ZF (fc t a f).f1) c = dd at *
   generalize rd (ZF (fc t a f).f1) f = x at *
   generalize qd c f = q at *
   generalize qd dd x = q2 at *
   obtain ⟨d0, d1⟩ := hd
   have w1 : wrap64 (7 * a) = 7 * a := qw (by omega) (by omega)
   have w2 : wrap64 (7 * a + c) = 7 * a + c := qw (by omega) (by omega)
   have w3 : wrap64 (7 * a + 4) = 7 * a + 4 := qw (by omega) (by omega)
   have w4 : wrap64 (7 * a + 4 + q) = 7 * a + 4 + q := qw (by omega) (by omega)
   have w5 : wrap64 (7 * b) = 7 * b := qw (by omega) (by omega)
   have w6 : wrap64 (7 * b + dd) = 7 * b + dd := qw (by omega) (by omega)
   have w7 : wrap64 (7 * b + 4) = 7 * b + 4 := qw (by omega) (by omega)
   have w8 : wrap64 (7 * b + 4 + q2) = 7 * b + 4 + q2 := qw (by omega) (by omega)
   have w9 : wrap64 (7 * (t.length : Int)) = 7 * (t.length : Int) := qw (by omega) (by omega)
   have w10 : wrap64 (c + 1) = c + 1 := qw (by omega) (by omega)
   have hln : (List.replicate (7 * t.length) (0 : Int)).length = 7 * t.length := List.length_replicate
   refine qi (fun k => by rw [zm.l1, if_pos (by omega), if_neg hcf, zu.f, yfy, w9, if_pos (by omega), if_pos (by omega), yfy, hlt, yny]) ?_
   refine Ev.bind hcorner ?_
   dsimp only
   refine Ev.congr (fun k => by rw [w1, w2, if_pos (by omega), if_pos (by rw [hln]; omega), yfy, hbt1, yfy, w3, w4, if_pos (by omega), if_pos (by rw [hln]; omega), yfy, w5, w6, if_pos (by omega), if_pos (by rw [hln]; omega), yfy, hbt2, yfy, w7, w8, if_pos (by omega), if_pos (by rw [hln]; omega), if_pos (by omega), w10]) ?_
   have := ih (acc ++ [zAD (zAD (Jy (Jy (List.replicate (7 * t.length) 0) (7 * a + c)) (7 * a + 4 + q)) (7 * b + dd)) (7 * b + 4 + q2)]) (by simp; omega)
   rw [List.append_assoc acc] at this
   exact this
theorem zBX (h : QE t = true) {P : List (List Int)} (hP : ∀ p ∈ P, zEU t p) (hPl : P.length ≤ 100) : ∀ (d i : Nat) (acc : List (List Int)), i + d = P.length → acc.length + 4 * d ≤ 1000 → Ev (fun k => zm.l0 k acc P (i : Int) t) (acc ++ (P.drop i).flatMap (zC1 t))
 | 0, i, acc, he, hl => by
  refine qi (fun k => by rw [zm.l0, if_neg (by omega)]) ?_
  rw [List.drop_eq_nil_of_le (by omega)]; simp only [List.flatMap_nil, List.append_nil]; exact Ev.now _
 | d + 1, i, acc, he, hl => by
  have hlt : i < P.length := by omega
  obtain ⟨a, f, hp, h0, h1, hf0, hf1, hb⟩ := hP P[i] (List.getElem_mem hlt)
  have ex : zd P (i : Int) = [a, f] := by simp [zd, hlt, hp]
  refine qi (fun k => by rw [zm.l0, if_pos (by omega), if_pos (by omega), ex, if_pos (by simp), if_pos (by simp)]) ?_
  have := zBW h (P := P) (i := (i : Int)) h0 h1 hf0 hf1 hb (R := (P.drop (i + 1)).flatMap (zC1 t)) (D := 4 * d) (by omega) (by omega) (fun acc2 hl2 => zBX h hP hPl d (i + 1) acc2 (by omega) hl2) 4 0 acc (by omega) (by omega) (by omega)
  rw [List.append_assoc] at this
  rw [yoy hlt, hp, List.flatMap_cons]
  exact this
theorem zCV (h : QE t = true) : Ev (fun k => zm.f k t) (JM t) := by
 have h8 := (ZZ h).1
 have hl := zAF t t.length 0
 refine Ev.bind (zC2 h) ?_
 have := zBX h (zCU t t.length 0 (by omega) (by omega)) (by omega) (QR t 0 t.length).length 0 [] (by omega) (by simp; omega)
 rw [List.nil_append, List.drop_zero, ← Jn h] at this
 exact this
theorem zBY (h : QE t = true) : (JM t).length ≤ 1000 := by
 have h8 := (ZZ h).1
 have hl := zAF t t.length 0
 rw [Jn h, List.length_flatMap]
 have : ∀ P : List (List Int), ((P.map fun p => (zC1 t p).length).sum) ≤ 4 * P.length := by
  intro P
  induction P with
  | nil => simp
  | cons p ps ih =>
   simp only [yjy, List.sum_cons, List.length_cons]
   have h1 : (zC1 t p).length ≤ 4 := by unfold zC1 zES; rw [List.length_map]; exact zDD _
   omega
 have := this (QR t 0 t.length)
 omega
end
def JB (t : Tri) : Int := if QE t then (if (t.length : Int) > 6 then 3 else 0) else 1
def inR (x : Int) : Bool := decide (0 ≤ x) && decide (x ≤ 1000)
theorem Ja {t : Tri} (h : JB t = 0) : QE t = true ∧ t.length ≤ 6 := by
  unfold JB at h
  cases ht : QE t with
  | false => rw [ht] at h; simp at h
  | true =>
    rw [ht, if_pos rfl] at h
    refine ⟨rfl, ?_⟩
    by_cases hl : (t.length : Int) > 6
    · rw [if_pos hl] at h; simp at h
    · omega
theorem zA5 (t : Tri) : Ev (fun k => qz.f k t) (JB t) := by
  refine Ev.bind (zC0 t) ?_
  unfold JB
  cases QE t with
  | false => exact ZD (by simp) (Ev.now _)
  | true =>
    refine ql rfl (Ev.bind (JA (by unfold zu.f; rfl)) ?_)
    rw [if_pos rfl]
    by_cases hl : (t.length : Int) > 6
    · exact ql hl (Qz (if_pos hl).symm)
    · exact ZD hl (Qz (if_neg hl).symm)
theorem JC {t : Tri} (hs : Small t) : Ev (fun k => ZR.f k t) (JB t) := by
  refine Ev.bind (zBz hs) ?_
  unfold JB
  cases QE t with
  | false => exact ZD (by simp) (Ev.now _)
  | true =>
    refine ql rfl ?_
    rw [if_pos rfl]
    by_cases hl : (t.length : Int) > 6
    · exact ql hl (Qz (if_pos hl).symm)
    · exact ZD hl (Qz (if_neg hl).symm)
theorem zF0 (a b c : Int) : QJ.f a b c = some (decide (b ≤ a) && decide (a ≤ c)) := by
  unfold QJ.f
  by_cases h : b ≤ a <;> simp [h]
theorem zC3 {α : Type} (l : List α) (z : α) (n : Nat) (h : n < l.length) :
    (l.take n ++ List.replicate (l.length - n) z).set n l[n] = l.take (n + 1) ++ List.replicate (l.length - (n + 1)) z := by
  have e : l.length - n = (l.length - (n + 1)) + 1 := by omega
  rw [e, List.replicate_succ, List.set_append_right _ _ (by simp; omega)]
  have : n - (l.take n).length = 0 := by simp; omega
  rw [this, yby, List.take_succ_eq_append_getElem h, List.append_assoc]
  rfl
theorem zAp (l : List Int) (h : l.length ≤ 4398046511104) : Ev (fun k => qC.f k l) l := by
  have hl : Ev (fun k => qC.l0 k l (List.replicate l.length 0) 0) l := by
    refine Qy (fun k (s : List Int × Int) => qC.l0 k l s.1 s.2) (fun s => ∃ n : Nat, n ≤ l.length ∧ s.2 = n ∧ s.1 = l.take n ++ List.replicate (l.length - n) 0) (fun s => l.length - s.2.toNat) (fun _ => l) ?_ (List.replicate l.length 0, 0) ⟨0, by omega, rfl, by simp⟩
    rintro ⟨a, i⟩ ⟨n, hn, rfl, rfl⟩
    dsimp only
    by_cases hlt : n < l.length
    · refine .inr ⟨(l.take (n + 1) ++ List.replicate (l.length - (n + 1)) 0, ((n + 1 : Nat) : Int)), ⟨n + 1, by omega, rfl, rfl⟩, by simp; omega, rfl, fun k => ?_⟩
      simp only [qC.l0]
      rw [if_pos (by omega), if_pos (by omega), if_pos (by simp; omega), ZK (by omega), yny, Jm l n hlt, zC3 l 0 n hlt]
    · obtain rfl : n = l.length := by omega
      refine .inl fun k => ?_
      simp only [qC.l0]
      rw [if_neg (by omega)]
      simp
  refine Ev.congr (fun k => ?_) hl
  unfold qC.f
  rw [if_pos (by omega), if_pos (by simp; omega), yny]
theorem zAq (l : List Int) (h : l.length ≤ 4398046511104) : Ev (fun k => qb.f k l l) true := by
  have hl : Ev (fun k => qb.l0 k l l 0) true := by
    refine Qy (fun k (s : Int) => qb.l0 k l l s) (fun s => ∃ n : Nat, n ≤ l.length ∧ s = n) (fun s => l.length - s.toNat) (fun _ => true) ?_ 0 ⟨0, by omega, rfl⟩
    rintro i ⟨n, hn, rfl⟩
    by_cases hlt : n < l.length
    · refine .inr ⟨((n + 1 : Nat) : Int), ⟨n + 1, by omega, rfl⟩, by simp; omega, rfl, fun k => ?_⟩
      simp only [qb.l0]
      rw [if_pos (by omega), if_pos (by omega), if_pos (by omega), if_pos trivial, ZK (by omega)]
    · refine .inl fun k => ?_
      simp only [qb.l0]
      rw [if_neg (by omega)]
  refine Ev.congr (fun k => ?_) hl
  unfold qb.f
  rw [if_pos rfl]
def JW (R : List (List Int)) (v : List Int) : Bool := R.all fun r => decide (zDg r v 0 = 0)
def Qk (t : Tri) (v : List Int) : Bool := if (v.length : Int) = 7 * (t.length : Int) then (if v.all inR = true then JW (JM t) v else false) else false
def zA6 (t : Tri) (v : List Int) : Bool := if JB t = 0 then Qk t v else false
theorem zDo {t : Tri} {v : List Int} (hv : v.length ≤ 4398046511104) {R : Bool} (hR : Ev (fun k => (zm.f k t).bind fun t106 => zi.l1 k v t106 0) R) (d : Nat) : ∀ n : Nat, n + d = v.length → Ev (fun k => zi.l0 k v (n : Int) t) (if (v.drop n).all inR = true then R else false) := by
  induction d with
  | zero =>
    intro n hn
    refine qi (fun k => by rw [zi.l0, if_neg (by omega)]) ?_
    rw [List.drop_eq_nil_of_le (by omega), if_pos (by rfl)]; exact hR
  | succ d ih =>
    intro n hn
    have hlt : n < v.length := by omega
    refine qi (fun k => by rw [zi.l0, if_pos (by omega), if_pos (by omega), Jm v n hlt, zF0, yfy, ZK (by omega)]) ?_
    rw [yoy hlt, List.all_cons]
    change Ev (fun k => if inR v[n] = true then _ else _) _
    cases h : inR v[n] with
    | false => exact ZD (by simp) (by rw [Bool.false_and, if_neg (by simp)]; exact Ev.now _)
    | true => exact ql rfl (by rw [Bool.true_and]; exact ih (n + 1) (by omega))
theorem zAr (r v : List Int) (hl : r.length ≤ v.length) (hr : r.length ≤ 1000000) : ∀ (d n : Nat) (s : Int), n + d = r.length → Ev (fun k => qx.l0 k r v s (n : Int)) (zDg (r.drop n) (v.drop n) s)
  | 0, n, s, hn => by
    refine qi (fun k => by rw [qx.l0, if_neg (by omega)]) ?_
    rw [List.drop_eq_nil_of_le (by omega)]
    cases v.drop n <;> exact Ev.now _
  | d + 1, n, s, hn => by
    have hlt : n < r.length := by omega
    have hlv : n < v.length := by omega
    refine qi (fun k => by rw [qx.l0, if_pos (by omega), if_pos (by omega), if_pos (by omega), Jm r n hlt, Jm v n hlv, ZK (by omega)]) ?_
    rw [yoy hlt, yoy hlv, zDg]
    exact zAr r v hl hr d (n + 1) _ (by omega)
theorem zCy (r v : List Int) (hl : r.length ≤ v.length) (hr : r.length ≤ 1000000) : Ev (fun k => qx.f k r v) (zDg r v 0) := by
  have := zAr r v hl hr r.length 0 0 (by omega)
  rwa [List.drop_zero, List.drop_zero] at this
theorem zBZ (R : List (List Int)) (v : List Int) (hR : ∀ r ∈ R, r.length ≤ v.length ∧ r.length ≤ 1000000) (hl : R.length ≤ 1000000) : ∀ (d n : Nat), n + d = R.length → Ev (fun k => zi.l1 k v R (n : Int)) (JW (R.drop n) v)
  | 0, n, hn => by
    refine qi (fun k => by rw [zi.l1, if_neg (by omega)]) ?_
    rw [List.drop_eq_nil_of_le (by omega)]; exact Ev.now _
  | d + 1, n, hn => by
    have hlt : n < R.length := by omega
    have ex : zd R (n : Int) = R[n] := by simp [zd, hlt]
    have h1 := hR R[n] (List.getElem_mem hlt)
    refine qi (fun k => by rw [zi.l1, if_pos (by omega), if_pos (by omega), ex, ZK (by omega)]) ?_
    refine Ev.bind (zCy _ v h1.1 h1.2) ?_
    unfold JW
    rw [yoy hlt, List.all_cons]
    by_cases hz : zDg R[n] v 0 = 0
    · rw [ygy hz, Bool.true_and]
      exact ql hz (zBZ R v hR hl d (n + 1) (by omega))
    · rw [yhy hz, Bool.false_and]
      exact ZD hz (Ev.now _)
theorem zB6 (t : Tri) (v : List Int) (hv : v.length ≤ 4398046511104) : Ev (fun k => zi.f k t v) (zA6 t v) := by
  have hfalse : Ev (fun k => zi.j0 k v true t) false := qi (fun k => by rw [zi.j0, if_pos rfl]) (Ev.now false)
  refine Ev.bind (zA5 t) ?_
  unfold zA6
  by_cases hc : JB t = 0
  · obtain ⟨ht, h6⟩ := Ja hc
    rw [if_pos hc]
    unfold Qk
    refine ql hc (Ev.bind (JA (by unfold zu.f; rfl)) ?_)
    refine Ev.congr (fun k => by rw [qw (by omega) (by omega)]) (f := fun k => zi.j0 k v ((v.length : Int) != (7 * (t.length : Int))) t) ?_
    by_cases hl : (v.length : Int) = 7 * (t.length : Int)
    · rw [if_pos hl]
      have e : ((v.length : Int) != (7 * (t.length : Int))) = false := by simp [hl]
      rw [e]
      refine qi (fun k => by rw [zi.j0, if_neg (by simp)]) ?_
      have hrows : Ev (fun k => (zm.f k t).bind fun t106 => zi.l1 k v t106 0) (JW (JM t) v) := by
        refine Ev.bind (zCV ht) ?_
        have := zBZ (JM t) v (fun r hr => by have := zAn ht r hr; omega) (by have := zBY ht; omega) (JM t).length 0 (by omega)
        rwa [List.drop_zero] at this
      have := zDo hv hrows v.length 0 (by omega)
      rwa [List.drop_zero] at this
    · rw [if_neg hl]
      have e : ((v.length : Int) != (7 * (t.length : Int))) = true := by simp [hl]
      rw [e]
      exact hfalse
  · rw [if_neg hc]
    exact ZD hc hfalse
theorem zCW (cols : Nat) (A r B : List Int) (k : Nat) (hA : A.length = k * cols) (hr : r.length = cols) : rowAt cols (A ++ (r ++ B)) k = r := by
  unfold rowAt
  have h3 : (k + 1) * cols = A.length + r.length := by rw [Nat.succ_mul]; omega
  rw [h3, ← hA, ← List.append_assoc, List.take_append_of_le_length (by simp), List.take_of_length_le (by simp), List.drop_append_of_le_length (yqy _), List.drop_length, List.nil_append]
theorem zBa (cols : Nat) (v : List Int) : ∀ (R : List (List Int)) (A : List Int) (k : Nat), A.length = k * cols → (∀ r ∈ R, r.length = cols) → JU cols (A ++ R.flatten) v R.length k = JW R v
  | [], _, _, _, _ => rfl
  | r :: R, A, k, hA, hR => by
    have hr := hR r (List.mem_cons_self ..)
    rw [List.length_cons, JU, List.flatten_cons, zCW cols A r _ k hA hr]
    have ih := zBa cols v R (A ++ r) (k + 1) (by rw [List.length_append, hA, hr, Nat.succ_mul]) (fun x hx => hR x (List.mem_cons_of_mem _ hx))
    rw [List.append_assoc] at ih
    rw [ih]
    unfold JW
    rw [List.all_cons]
    by_cases hz : zDg r v 0 = 0
    · rw [if_pos hz, ygy hz, Bool.true_and]
    · rw [if_neg hz, yhy hz, Bool.false_and]
theorem zAs (cols : Nat) : ∀ (R : List (List Int)), (∀ r ∈ R, r.length = cols) → R.flatten.length = R.length * cols
  | [], _ => by simp
  | r :: R, h => by
    rw [List.flatten_cons, List.length_append, zAs cols R (fun x hx => h x (List.mem_cons_of_mem _ hx)), h r (List.mem_cons_self ..), List.length_cons, Nat.succ_mul]; omega
theorem zB7 {t : Tri} (h : QE t = true) (v : List Int) (hv : (v.length : Int) = 7 * (t.length : Int)) : ZX.f ((JM t).length : Int) (7 * (t.length : Int)) (JM t).flatten v = some (JW (JM t) v) := by
  have h8 := (ZZ h).1
  have hs := zBY h
  have hf := zAs (7 * t.length) (JM t) (zAn h)
  have e7 : (7 * (t.length : Int)).toNat = 7 * t.length := by omega
  unfold ZX.f
  rw [if_pos ?_, e7, yny]
  · have := zBa (7 * t.length) v (JM t) [] 0 (by simp) (zAn h)
    rw [List.nil_append] at this
    rw [this]
  · refine ⟨by omega, by omega, by omega, by omega, ?_, by omega⟩
    rw [hf]; push_cast; rfl
theorem zEV (v : List Int) : zf.f v = some (!(v.all inR)) := by
  unfold zf.f zy.f
  rw [contO (p := fun y => !(inR y)) v (fun y _ => by
    show qP.f y = _
    unfold qP.f
    rw [zAE]; rfl), List.not_all_eq_any_not]
theorem zC4 {t : Tri} (h : QE t = true) (v : List Int) : qX.f t v = some (Qk t v) := by
  have h8 := (ZZ h).1
  unfold qX.f Qk
  rw [qw (by omega) (by omega)]
  by_cases hl : (v.length : Int) = 7 * (t.length : Int)
  · rw [if_pos hl, if_pos hl, zEV, yfy]
    cases ha : v.all inR with
    | false => rfl
    | true => rw [if_neg (by simp), zDn h, yfy, zB7 h v hl, yfy, if_pos rfl]
  · rw [if_neg hl, if_neg hl]
def Jg : Nat → List Int → List Int
  | _, [] => []
  | i, x :: xs => if x = 0 then Jg (i + 1) xs else (i : Int) :: Jg (i + 1) xs
theorem zCz (i : Nat) (l : List Int) : (Jg i l).length ≤ l.length := by
  induction l generalizing i with
  | nil => simp [Jg]
  | cons x xs ih => unfold Jg; have := ih (i + 1); split <;> simp <;> omega
theorem zAt (l : List Int) (n : Nat) (h : n < l.length) : Jg n (l.drop n) = if l[n] = 0 then Jg (n + 1) (l.drop (n + 1)) else (n : Int) :: Jg (n + 1) (l.drop (n + 1)) := by
  rw [yoy h]; rfl
theorem zAG (l : List Int) (h : l.length ≤ 4398046511104) : Ev (fun k => qF.f k l) (Jg 0 l) := by
  refine Qy (fun k (s : List Int × Int) => qF.l0 k l s.1 s.2) (fun s => ∃ n : Nat, n ≤ l.length ∧ s.2 = n ∧ s.1.length ≤ n) (fun s => l.length - s.2.toNat) (fun s => s.1 ++ Jg s.2.toNat (l.drop s.2.toNat)) ?_ ([], 0) ⟨0, by omega, rfl, by simp⟩
  rintro ⟨a, i⟩ ⟨n, hn, rfl, ha⟩
  dsimp only at ha ⊢
  by_cases hlt : n < l.length
  · right
    rw [yny, zAt l n hlt]
    by_cases hx : l[n] = 0
    · refine ⟨(a, ((n + 1 : Nat) : Int)), ⟨n + 1, by omega, rfl, by dsimp only; omega⟩, by dsimp only; omega, by dsimp only; rw [yny, if_pos hx], fun k => ?_⟩
      simp only [qF.l0]
      rw [if_pos (by omega), if_pos (by omega), Jm l n hlt, if_pos hx, ZK (by omega)]
    · refine ⟨(a ++ [(n : Int)], ((n + 1 : Nat) : Int)), ⟨n + 1, by omega, rfl, by simp; omega⟩, by dsimp only; omega, by dsimp only; rw [yny, if_neg hx]; simp, fun k => ?_⟩
      simp only [qF.l0]
      rw [if_pos (by omega), if_pos (by omega), Jm l n hlt, if_neg hx, if_pos (by omega), ZK (by omega)]
  · obtain rfl : n = l.length := by omega
    refine .inl fun k => ?_
    simp only [qF.l0]
    rw [if_neg (by omega)]
    simp [Jg]
theorem Qr (l : List Int) (h : l.length ≤ 4398046511104) : Ev (fun k => zq.f k l) (Jg 0 l) := by
  refine Qy (fun k (s : List Int × Int) => zq.l0 k s.1 l (l.length : Int) s.2) (fun s => ∃ n : Nat, n ≤ l.length ∧ s.2 = n ∧ s.1.length ≤ n) (fun s => l.length - s.2.toNat) (fun s => s.1 ++ Jg s.2.toNat (l.drop s.2.toNat)) ?_ ([], 0) ⟨0, by omega, rfl, by simp⟩
  rintro ⟨a, i⟩ ⟨n, hn, rfl, ha⟩
  dsimp only at ha ⊢
  by_cases hlt : n < l.length
  · right
    rw [yny, zAt l n hlt]
    by_cases hx : l[n] = 0
    · refine ⟨(a, ((n + 1 : Nat) : Int)), ⟨n + 1, by omega, rfl, by dsimp only; omega⟩, by dsimp only; omega, by dsimp only; rw [yny, if_pos hx], fun k => ?_⟩
      simp only [zq.l0]
      rw [if_pos (by omega), if_pos (by omega), if_pos (by omega), Jm l n hlt, if_pos hx, ZK (by omega)]
    · refine ⟨(a ++ [(n : Int)], ((n + 1 : Nat) : Int)), ⟨n + 1, by omega, rfl, by simp; omega⟩, by dsimp only; omega, by dsimp only; rw [yny, if_neg hx]; simp, fun k => ?_⟩
      simp only [zq.l0]
      rw [if_pos (by omega), if_pos (by omega), if_pos (by omega), Jm l n hlt, if_neg hx, if_pos (by omega), ZK (by omega)]
  · obtain rfl : n = l.length := by omega
    refine .inl fun k => ?_
    simp only [zq.l0]
    rw [if_neg (by omega)]
    simp [Jg]
def nzc : List Int → Nat
  | [] => 0
  | x :: xs => if x = 0 then nzc xs else nzc xs + 1
theorem zF1 (l : List Int) : ∀ i, (Jg i l).length = nzc l := by
  induction l with
  | nil => intro i; rfl
  | cons x xs ih => intro i; unfold Jg nzc; split <;> simp [ih]
def zFR (v : List Int) (i : Nat) : Bool := decide (nzc (Qb 7 4 3 v i) ≤ 1)
def zFS (v : List Int) : Nat → Nat → Bool
  | 0, _ => true
  | d + 1, n => zFR v n && zFS v d (n + 1)
def zFZ (v : List Int) : Bool := zFS v (v.length / 7) 0
def zFT (v : List Int) : Nat → Bool
  | 0 => true
  | n + 1 => zFT v n && zFR v n
theorem zDL (v : List Int) : ∀ d n, zFS v d n = true ↔ ∀ i, n ≤ i → i < n + d → zFR v i = true
  | 0, n => by simp [zFS]; intro i h1 h2; omega
  | d + 1, n => by
    rw [zFS, Bool.and_eq_true, zDL v d (n + 1)]
    constructor
    · rintro ⟨h0, h1⟩ i hi hd
      rcases Nat.eq_or_lt_of_le hi with rfl | h
      · exact h0
      · exact h1 i h (by omega)
    · intro h
      exact ⟨h n (yqy _) (by omega), fun i hi hd => h i (by omega) (by omega)⟩
theorem zDM (v : List Int) : ∀ n, zFT v n = true ↔ ∀ i, i < n → zFR v i = true
  | 0 => by simp [zFT]
  | n + 1 => by
    rw [zFT, Bool.and_eq_true, zDM v n]
    constructor
    · rintro ⟨h0, h1⟩ i hi
      rcases Nat.lt_succ_iff_lt_or_eq.1 hi with h | rfl
      · exact h0 i h
      · exact h1
    · intro h
      exact ⟨fun i hi => h i (by omega), h n (by omega)⟩
theorem zFU (v : List Int) (n : Nat) : zFT v n = zFS v n 0 := by
  rw [Bool.eq_iff_iff, zDM, zDL]
  constructor
  · intro h i _ hi; exact h i (by omega)
  · intro h i hi; exact h i (by omega) (by omega)
theorem zAP {v : List Int} {n : Nat} (h : n * 7 + 7 ≤ v.length) : Qb 7 4 3 v n = [v[n * 7 + 4], v[n * 7 + 5], v[n * 7 + 6]] := by
  unfold Qb
  rw [yoy (by omega), List.take_succ_cons, yoy (by omega), List.take_succ_cons, yoy (by omega), List.take_succ_cons, List.take_zero]
theorem zEW (v : List Int) : ∀ n, n * 7 ≤ v.length → Ev (fun k => zDE (fun i => zFO (zq.f k) 7 4 3 v i) n) (zFT v n)
  | 0, _ => Ev.now true
  | n + 1, h => by
    refine Ev.bind (zEW v n (by omega)) ?_
    have h3 : (Qb 7 4 3 v n).length = 3 := by rw [zAP (by omega)]; rfl
    have hs := Qr (Qb 7 4 3 v n) (by omega)
    obtain ⟨K, hK⟩ := hs
    refine ⟨K, fun k hk => ?_⟩
    have h9 : zq.f k (Qb 7 4 3 v n) = some (Jg 0 (Qb 7 4 3 v n)) := hK k hk
    dsimp only
    unfold zFO
    rw [h9]
    simp [zFT, zFR, zF1]
theorem zCX (v : List Int) (h7 : v.length % 7 = 0) (hl : v.length ≤ 7000000000) : Ev (fun k => qo.f k v) (zFZ v) := by
  refine Ev.congr (fun k => by unfold qo.f; rw [if_pos ⟨h7, hl⟩]) ?_
  unfold zFZ
  rw [← zFU]
  exact zEW v _ (by omega)
def nz1 (x : Int) : Int := if x = 0 then 0 else 1
theorem zFV (x : Int) : 0 ≤ nz1 x ∧ nz1 x ≤ 1 := by unfold nz1; split <;> omega
theorem JD (v : List Int) (n q : Nat) (hq4 : 4 ≤ q) (hq : q ≤ 6) (h : n * 7 + 7 ≤ v.length) (hb : v.length ≤ 7000000000) (hp : ∀ x ∈ v, 0 ≤ x) (c : Int) (hc0 : 0 ≤ c) (hc : c ≤ 10) {R : Bool} (hlt : n * 7 + q < v.length)
    (hR : Ev (fun k => qN.l1 k v ((n * 7 : Nat) : Int) (c + nz1 v[n * 7 + q]) ((q + 1 : Nat) : Int)) R) : Ev (fun k => qN.l1 k v ((n * 7 : Nat) : Int) c (q : Int)) R := by
  have e1 : wrap64 (((n * 7 : Nat) : Int) + (q : Int)) = ((n * 7 + q : Nat) : Int) := by rw [qw (by omega) (by omega)]; omega
  have e2 : wrap64 ((q : Int) + 1) = ((q + 1 : Nat) : Int) := ZK (by omega)
  have hv := hp v[n * 7 + q] (List.getElem_mem hlt)
  refine qi (fun k => by rw [qN.l1, if_pos (by omega), e1, if_pos (by omega), if_pos (by omega), Jm v _ hlt, e2]) ?_
  by_cases hz : v[n * 7 + q] > 0
  · refine ql hz ?_
    have e3 : wrap64 (c + 1) = c + nz1 v[n * 7 + q] := by rw [qw (by omega) (by omega)]; unfold nz1; rw [if_neg (by omega)]
    rw [e3]; exact hR
  · refine ZD hz ?_
    have e3 : c = c + nz1 v[n * 7 + q] := by unfold nz1; rw [if_pos (by omega)]; omega
    rw [e3]; exact hR
theorem zD0 (v : List Int) (n : Nat) (h : n * 7 + 7 ≤ v.length) (hb : v.length ≤ 7000000000) (hp : ∀ x ∈ v, 0 ≤ x) {R : Bool} (hR : Ev (fun k => qN.l0 k v (((n + 1) * 7 : Nat) : Int)) R) : Ev (fun k => qN.l1 k v ((n * 7 : Nat) : Int) 0 4) (zFR v n && R) := by
  have b4 := zFV (v[n * 7 + 4])
  have b5 := zFV (v[n * 7 + 5])
  have b6 := zFV (v[n * 7 + 6])
  refine JD v n 4 (by omega) (by omega) h hb hp 0 (by omega) (by omega) (by omega) ?_
  refine JD v n 5 (by omega) (by omega) h hb hp _ (by omega) (by omega) (by omega) ?_
  refine JD v n 6 (by omega) (by omega) h hb hp _ (by omega) (by omega) (by omega) ?_
  have e1 : wrap64 (((n * 7 : Nat) : Int) + 7) = (((n + 1) * 7 : Nat) : Int) := by rw [qw (by omega) (by omega)]; omega
  refine qi (fun k => by rw [qN.l1, if_neg (by omega), e1]) ?_
  have hn : (0 + nz1 v[n * 7 + 4] + nz1 v[n * 7 + 5] + nz1 v[n * 7 + 6] : Int) = (nzc (Qb 7 4 3 v n) : Int) := by
    rw [zAP h]
    unfold nzc nzc nzc nzc nz1
    repeat' split
    all_goals simp
  rw [hn]
  unfold zFR
  by_cases hz : nzc (Qb 7 4 3 v n) ≤ 1
  · rw [ygy hz, Bool.true_and]
    exact ZD (by omega) hR
  · rw [yhy hz, Bool.false_and]
    exact ql (by omega) (Ev.now _)
theorem zAu (v : List Int) (hb : v.length ≤ 7000000000) (hp : ∀ x ∈ v, 0 ≤ x) (N : Nat) (hN : v.length = N * 7) : ∀ d n, n + d = N → Ev (fun k => qN.l0 k v ((n * 7 : Nat) : Int)) (zFS v d n)
  | 0, n, hn => by
    have e1 : wrap64 (((n * 7 : Nat) : Int) + 7) = ((n * 7 + 7 : Nat) : Int) := by rw [qw (by omega) (by omega)]; omega
    refine qi (fun k => by rw [qN.l0, e1, if_neg (by omega)]) ?_
    exact Ev.now _
  | d + 1, n, hn => by
    have e1 : wrap64 (((n * 7 : Nat) : Int) + 7) = ((n * 7 + 7 : Nat) : Int) := by rw [qw (by omega) (by omega)]; omega
    refine qi (fun k => by rw [qN.l0, e1, if_pos (by omega)]) ?_
    exact zD0 v n (by omega) hb hp (zAu v hb hp N hN d (n + 1) (by omega))
theorem zCY (v : List Int) (h7 : v.length % 7 = 0) (hl : v.length ≤ 7000000000) (hp : ∀ x ∈ v, 0 ≤ x) : Ev (fun k => qN.f k v) (zFZ v) := by
  have := zAu v hl hp (v.length / 7) (by omega) (v.length / 7) 0 (by omega)
  unfold zFZ
  exact this
theorem Jb {t : Tri} {v : List Int} (h : Qk t v = true) : (v.length : Int) = 7 * (t.length : Int) ∧ (∀ x ∈ v, 0 ≤ x ∧ x ≤ 1000) ∧ JW (JM t) v = true := by
  unfold Qk at h
  by_cases hl : (v.length : Int) = 7 * (t.length : Int)
  · rw [if_pos hl] at h
    by_cases ha : v.all inR = true
    · rw [if_pos ha] at h
      refine ⟨hl, fun x hx => ?_, h⟩
      have := List.all_eq_true.1 ha x hx
      unfold inR at this
      simp at this
      exact this
    · rw [if_neg ha] at h; cases h
  · rw [if_neg hl] at h; cases h
def adm0 (t : Tri) (v : List Int) : Bool := if Qk t v = true then zFZ v else false
def adm (t : Tri) (v : List Int) : Bool := if zA6 t v = true then zFZ v else false
theorem zA7 {t : Tri} (h : JB t = 0) (v : List Int) : zA6 t v = Qk t v := by unfold zA6; rw [if_pos h]
theorem zEX {t : Tri} (h : JB t = 0) (v : List Int) : adm t v = adm0 t v := by unfold adm adm0; rw [zA7 h]
theorem zAv {t : Tri} {v : List Int} (h : zA6 t v = true) : JB t = 0 := by
  unfold zA6 at h
  by_cases hc : JB t = 0
  · exact hc
  · rw [if_neg hc] at h; cases h
theorem JX {t : Tri} (hc : JB t = 0) (v : List Int) : Ev (fun k => zb.f k t v) (adm0 t v) := by
  obtain ⟨ht, h6⟩ := Ja hc
  refine Ev.bind (JA (zC4 ht v)) ?_
  unfold adm0
  by_cases hn : Qk t v = true
  · obtain ⟨hl, hr, _⟩ := Jb hn
    refine ql hn (Ev.bind (zCX v (by omega) (by omega)) ?_)
    rw [if_pos hn]; exact Ev.now _
  · rw [if_neg hn]; exact ZD hn (Ev.now _)
theorem zAw (t : Tri) (v : List Int) (hv : v.length ≤ 4398046511104) : Ev (fun k => qO.f k t v) (adm t v) := by
  refine Ev.bind (zB6 t v hv) ?_
  unfold adm
  by_cases hn : zA6 t v = true
  · have hc := zAv hn
    obtain ⟨ht, h6⟩ := Ja hc
    rw [zA7 hc] at hn
    obtain ⟨hl, hr, _⟩ := Jb hn
    rw [zA7 hc]
    refine ql hn (Ev.bind (zCY v (by omega) (by omega) (fun x hx => (hr x hx).1)) ?_)
    rw [if_pos hn]; exact Ev.now _
  · rw [if_neg hn]; exact ZD hn (Ev.now _)
end Go.Proofs.Ythjpdljdodalaaa.P
namespace Go.Proofs.Ythjpdljdodalaaa.P
open Go.RowKit Go.Proofs.YthjpdljdodalaaaW.PrintWords Go.Proofs.YthjpdljdodalaaaW.PrintMore Go.Proofs.Ythjpdljdodalaaa.Lib
set_option linter.unusedVariables false
def zAS (a b : Int) : Int := (Int.gcd a b : Int)
def gcdL (l : List Int) : Int := l.foldl zAS 0
theorem zD1 (a b : Int) : 0 ≤ zAS a b := by unfold zAS; omega
theorem zEY {a b : Int} (ha : 0 ≤ a) (hb : 0 < b) : zAS a b = zAS b (Int.tmod a b) := by
  unfold zAS
  obtain ⟨m, rfl⟩ := Int.eq_ofNat_of_zero_le ha
  obtain ⟨n, rfl⟩ := Int.eq_ofNat_of_zero_le (Int.le_of_lt hb)
  have e : Int.tmod (m : Int) (n : Int) = ((m % n : Nat) : Int) := rfl
  rw [e]
  simp only [Int.gcd, Int.natAbs_natCast]
  rw [Nat.gcd_comm m n, Nat.gcd_rec n m, Nat.gcd_comm]
theorem zEZ {a : Int} (ha : 0 ≤ a) : zAS a 0 = a := by
  unfold zAS
  obtain ⟨m, rfl⟩ := Int.eq_ofNat_of_zero_le ha
  simp [Int.gcd]
theorem zFW {a b : Int} (ha : 0 ≤ a) (hb : 0 ≤ b) : zAS a b ≤ max a b := by
  unfold zAS
  obtain ⟨m, rfl⟩ := Int.eq_ofNat_of_zero_le ha
  obtain ⟨n, rfl⟩ := Int.eq_ofNat_of_zero_le hb
  simp only [Int.gcd, Int.natAbs_natCast]
  rcases Nat.eq_zero_or_pos n with h | h
  · subst h; simp
  · have := Nat.gcd_le_right m h; omega
theorem zCZ (a b : Int) (ha : 0 ≤ a) (hb : 0 ≤ b) : Ev (fun k => ZS.l0 k a b) (zAS a b) := by
  refine Qy (fun k (s : Int × Int) => ZS.l0 k s.1 s.2) (fun s => 0 ≤ s.1 ∧ 0 ≤ s.2) (fun s => s.2.toNat) (fun s => zAS s.1 s.2) ?_ (a, b) ⟨ha, hb⟩
  rintro ⟨x, y⟩ ⟨hx, hy⟩
  dsimp only at hx hy ⊢
  by_cases h : y = 0
  · subst h
    left
    intro k
    simp only [ZS.l0]
    rw [if_pos trivial, zEZ hx]
  · right
    have h1 : 0 ≤ Int.tmod x y := Int.tmod_nonneg y hx
    have h2 : Int.tmod x y < y := Int.tmod_lt_of_pos x (by omega)
    refine ⟨(y, Int.tmod x y), ⟨hy, h1⟩, by dsimp only; omega, (zEY hx (by omega)).symm, fun k => ?_⟩
    simp only [ZS.l0]
    rw [if_neg h]
theorem zAx (a : Int) (h : -9223372036854775807 ≤ a) (h2 : a ≤ 9223372036854775807) : Zl.f a = some (a.natAbs : Int) := by
  unfold Zl.f
  by_cases c : a < 0
  · rw [if_pos c, qw (by omega) (by omega)]; congr 1; omega
  · rw [if_neg c]; congr 1; omega
theorem zD2 (a b : Int) (ha : -9223372036854775807 ≤ a) (ha2 : a ≤ 9223372036854775807) (hb : -9223372036854775807 ≤ b) (hb2 : b ≤ 9223372036854775807) : Ev (fun k => ZS.f k a b) (zAS a b) := by
  refine Ev.congr (fun k => by unfold ZS.f; rw [zAx a ha ha2, zAx b hb hb2, yfy, yfy]) ?_
  have e : zAS a b = zAS (a.natAbs : Int) (b.natAbs : Int) := by unfold zAS; simp [Int.gcd]
  rw [e]
  exact zCZ _ _ (by omega) (by omega)
theorem zC5 (l : List Int) (h : l.length ≤ 4398046511104) (hr : ∀ x ∈ l, -9223372036854775807 ≤ x ∧ x ≤ 9223372036854775807) : Ev (fun k => qm.f k l) (gcdL l) := by
  refine zBw (fun k (s : Int × Int) => qm.l0 k s.1 l (l.length : Int) s.2) (fun s => ∃ n : Nat, n ≤ l.length ∧ s.2 = n ∧ 0 ≤ s.1 ∧ s.1 ≤ 9223372036854775807) (fun s => l.length - s.2.toNat) (fun s => (l.drop s.2.toNat).foldl zAS s.1) ?_ (0, 0) ⟨0, by omega, rfl, by simp, by simp⟩
  rintro ⟨a, i⟩ ⟨n, hn, rfl, h1, h2⟩
  dsimp only at h1 h2 ⊢
  by_cases hlt : n < l.length
  · right
    have hx := hr l[n] (List.getElem_mem hlt)
    obtain ⟨K, hK⟩ := zD2 a l[n] (by omega) (by omega) hx.1 hx.2
    have hb : zAS a l[n] ≤ 9223372036854775807 := by
      have e : zAS a l[n] = zAS a (l[n].natAbs : Int) := by unfold zAS; simp [Int.gcd]
      have := zFW h1 (b := (l[n].natAbs : Int)) (by omega)
      omega
    refine ⟨(zAS a l[n], ((n + 1 : Nat) : Int)), K, ⟨n + 1, by omega, rfl, zD1 _ _, hb⟩, by dsimp only; omega, ?_, fun k hk => ?_⟩
    · dsimp only; rw [yny, yny, yoy hlt]; rfl
    · have e : ZS.f k a l[n] = some _ := hK k hk
      simp only [qm.l0]
      rw [if_pos (by omega), if_pos (by omega), if_pos (by omega), Jm l n hlt, e, yfy, ZK (by omega)]
  · obtain rfl : n = l.length := by omega
    refine .inl ⟨0, fun k _ => ?_⟩
    simp only [qm.l0]
    rw [if_neg (by omega)]
    simp
theorem Jh : ∀ (l : List Int) (a : Int), l.foldl zAS a = 0 ↔ (a = 0 ∧ ∀ x ∈ l, x = 0) ∨ (l = [] ∧ a = 0)
  | [], a => by simp
  | x :: xs, a => by
    rw [List.foldl_cons, Jh xs]
    have e : zAS a x = 0 ↔ a = 0 ∧ x = 0 := by unfold zAS; rw [Int.natCast_eq_zero, Int.gcd_eq_zero_iff]
    rw [e]
    constructor
    · rintro (⟨⟨h1, h2⟩, h3⟩ | ⟨rfl, h1, h2⟩)
      · exact .inl ⟨h1, fun y hy => by rcases List.mem_cons.1 hy with rfl | h; exact h2; exact h3 y h⟩
      · exact .inl ⟨h1, fun y hy => by rcases List.mem_cons.1 hy with rfl | h; exact h2; cases h⟩
    · rintro (⟨h1, h2⟩ | ⟨h1, _⟩)
      · exact .inl ⟨⟨h1, h2 x (List.mem_cons_self ..)⟩, fun y hy => h2 y (List.mem_cons_of_mem _ hy)⟩
      · cases h1
theorem zDN : ∀ (i : Nat) (l : List Int), (Jg i l).length = 0 ↔ ∀ x ∈ l, x = 0
  | i, [] => by simp [Jg]
  | i, x :: xs => by
    unfold Jg
    by_cases h : x = 0
    · rw [if_pos h, zDN (i + 1) xs]; simp [h]
    · rw [if_neg h]; simp [h]
theorem zCa (l : List Int) : gcdL l = 0 ↔ (Jg 0 l).length = 0 := by
  rw [zDN]; unfold gcdL; rw [Jh]
  constructor
  · rintro (⟨_, h⟩ | ⟨rfl, _⟩)
    · exact h
    · intro x hx; cases hx
  · exact fun h => .inl ⟨rfl, h⟩
def zBb (u : List Int) : Prop := ∀ x ∈ u, 0 ≤ x ∧ x ≤ 1000
def times : Int → List Int → List Int → Int
  | m, x :: xs, y :: ys => times (if y = 0 then m else mn m (Int.tdiv x y)) xs ys
  | m, _, _ => m
theorem zCb {x y : Int} (hx : 0 ≤ x ∧ x ≤ 1000) (hy : 0 < y) : wrap64 (Int.tdiv x y) = Int.tdiv x y := by
  have h1 : 0 ≤ Int.tdiv x y := Int.tdiv_nonneg hx.1 (by omega)
  have h2 : Int.tdiv x y ≤ x := Int.tdiv_le_self _ hx.1
  exact qw (by omega) (by omega)
theorem JE (v w : List Int) (hl : v.length = w.length) (hb : v.length ≤ 7000000000) (hv : zBb v) (hw : zBb w) : ∀ (d n : Nat) (m : Int), n + d = v.length → Ev (fun k => qS.l0 k v w m (n : Int)) (times m (v.drop n) (w.drop n))
  | 0, n, m, hn => by
    refine qi (fun k => by rw [qS.l0, if_neg (by omega)]) ?_
    rw [List.drop_eq_nil_of_le (by omega)]
    exact Qz rfl
  | d + 1, n, m, hn => by
    have hlt : n < v.length := by omega
    have hlw : n < w.length := by omega
    have h1 := hv v[n] (List.getElem_mem hlt)
    have h2 := hw w[n] (List.getElem_mem hlw)
    rw [yoy hlt, yoy hlw, times]
    refine qi (fun k => by rw [qS.l0, if_pos (by omega), if_pos (by omega), if_pos (by omega), Jm v n hlt, Jm w n hlw, ZK (by omega)]) ?_
    by_cases hz : w[n] > 0
    · refine ql hz (ZD (by omega) ?_)
      rw [if_neg (by omega), zCb h1 hz]
      exact JE v w hl hb hv hw d (n + 1) _ (by omega)
    · refine ZD hz ?_
      rw [if_pos (by omega)]
      exact JE v w hl hb hv hw d (n + 1) _ (by omega)
theorem JF (v w : List Int) (hl : v.length = w.length) (hb : v.length ≤ 7000000000) (hv : zBb v) (hw : zBb w) : ∀ (d n : Nat) (m : Int) (pre : List Int), n + d = w.length → pre.length ≤ n → Ev (fun k => zz.l0 k v w m (pre ++ Jg n (w.drop n)) ((pre ++ Jg n (w.drop n)).length : Int) (pre.length : Int)) (times m (v.drop n) (w.drop n), 0)
  | 0, n, m, pre, hn, hp => by
    have e1 : v.drop n = [] := List.drop_eq_nil_of_le (by omega)
    have e2 : w.drop n = [] := List.drop_eq_nil_of_le (by omega)
    rw [e1, e2, Jg, List.append_nil]
    refine qi (fun k => by rw [zz.l0, if_neg (by omega)]) ?_
    exact Qz rfl
  | d + 1, n, m, pre, hn, hp => by
    have hlt : n < v.length := by omega
    have hlw : n < w.length := by omega
    have h1 := hv v[n] (List.getElem_mem hlt)
    have h2 := hw w[n] (List.getElem_mem hlw)
    have hsl := zCz (n + 1) (w.drop (n + 1))
    rw [yly] at hsl
    rw [zAt w n hlw, yoy hlt, yoy hlw, times]
    by_cases hz : w[n] = 0
    · rw [if_pos hz, if_pos hz]
      exact JF v w hl hb hv hw d (n + 1) m pre (by omega) (by omega)
    · rw [if_neg hz, if_neg hz]
      have hL : (pre ++ (n : Int) :: Jg (n + 1) (w.drop (n + 1))).length = pre.length + ((Jg (n + 1) (w.drop (n + 1))).length + 1) := by simp
      have hr : rd (pre ++ (n : Int) :: Jg (n + 1) (w.drop (n + 1))) (pre.length : Int) = (n : Int) := by
        rw [Jm _ _ (by omega), List.getElem_append_right (yqy _)]
        simp
      refine qi (fun k => by rw [zz.l0, if_pos (by omega), if_pos (by omega), if_pos (by omega), hr, if_pos (by omega), if_pos (by omega), if_pos (by omega), Jm v n hlt, Jm w n hlw, if_neg hz, zCb h1 (by omega), ZK (by omega)]) ?_
      have := JF v w hl hb hv hw d (n + 1) (mn m (Int.tdiv v[n] w[n])) (pre ++ [(n : Int)]) (by omega) (by simp; omega)
      have e1 : pre ++ [(n : Int)] ++ Jg (n + 1) (w.drop (n + 1)) = pre ++ (n : Int) :: Jg (n + 1) (w.drop (n + 1)) := by rw [List.append_assoc]; rfl
      have e2 : (pre ++ [(n : Int)]).length = pre.length + 1 := by simp
      rw [e1, e2] at this
      exact this
def mult (t : Tri) (v w : List Int) : Int × Int := if JB t = 0 then (if adm t v = true then (if adm t w = true then (if (Jg 0 w).length = 0 then (0, 5) else (times 1000 v w, 0)) else (0, 5)) else (0, 5)) else (0, JB t)
theorem zCc {t : Tri} {v : List Int} (h : adm t v = true) : JB t = 0 ∧ Qk t v = true := by
  unfold adm at h
  by_cases hn : zA6 t v = true
  · have hc := zAv hn
    rw [zA7 hc] at hn
    exact ⟨hc, hn⟩
  · rw [if_neg hn] at h; cases h
theorem zDO {t : Tri} {u v : List Int} (hu : adm t u = true) (hv : adm t v = true) : u.length = v.length ∧ u.length ≤ 42 ∧ zBb u ∧ zBb v := by
  obtain ⟨hc, h1⟩ := zCc hu
  obtain ⟨_, h2⟩ := zCc hv
  obtain ⟨ht, h6⟩ := Ja hc
  obtain ⟨a1, a2, _⟩ := Jb h1
  obtain ⟨b1, b2, _⟩ := Jb h2
  exact ⟨by omega, by omega, a2, b2⟩
theorem zCd (t : Tri) (v w : List Int) (hv : v.length ≤ 4398046511104) (hw : w.length ≤ 4398046511104) : Ev (fun k => Zh.f k t v w) (mult t v w) := by
  refine Ev.bind (zA5 t) ?_
  unfold mult
  by_cases hc : JB t = 0
  case neg => rw [if_neg hc]; exact ZD hc (Ev.now _)
  rw [if_pos hc]
  refine ql hc (Ev.bind (zAw t v hv) ?_)
  by_cases h1 : adm t v = true
  case neg => rw [if_neg h1]; exact ZD h1 (Ev.now _)
  rw [if_pos h1]
  refine ql h1 (Ev.bind (zAw t w hw) ?_)
  by_cases h2 : adm t w = true
  case neg => rw [if_neg h2]; exact ZD h2 (Ev.now _)
  rw [if_pos h2]
  obtain ⟨hl, hb, sv, sw⟩ := zDO h1 h2
  refine ql h2 (Ev.bind (zAG w hw) ?_)
  by_cases h3 : (Jg 0 w).length = 0
  · rw [if_pos h3]; exact ql (by omega) (Ev.now _)
  · rw [if_neg h3]
    have := JE v w hl (by omega) sv sw v.length 0 1000 (by omega)
    rw [List.drop_zero, List.drop_zero] at this
    exact ZD (by omega) (Ev.bind this (Ev.now _))
theorem zCe {t : Tri} (hs : Small t) (v w : List Int) (hw : w.length ≤ 4398046511104) : Ev (fun k => zz.f k t v w) (mult t v w) := by
  unfold mult
  by_cases hc : JB t = 0
  case neg =>
    rw [if_neg hc]
    refine Ev.bind (a := JB t) (Ev.bind (JC hs) (ZD hc (Ev.now _))) ?_
    exact ZD hc (Ev.now _)
  rw [if_pos hc]
  by_cases h1 : adm t v = true
  case neg =>
    rw [if_neg h1]
    refine Ev.bind (a := 5) (Ev.bind (JC hs) (ql hc (Ev.bind (JX hc v) ?_))) ?_
    · rw [← zEX hc]; exact ZD h1 (Ev.now _)
    · exact ZD (by omega) (Ev.now _)
  rw [if_pos h1]
  refine Ev.bind (a := 0) (Ev.bind (JC hs) (ql hc (Ev.bind (JX hc v) ?_))) ?_
  · rw [← zEX hc]; exact ql h1 (Qz hc)
  refine ql rfl (Ev.bind (JX hc w) ?_)
  rw [← zEX hc]
  by_cases h2 : adm t w = true
  case neg => rw [if_neg h2]; exact ZD h2 (Ev.now _)
  rw [if_pos h2]
  obtain ⟨hl, hb, sv, sw⟩ := zDO h1 h2
  refine ql h2 (Ev.bind (zC5 w hw (fun x hx => by have := sw x hx; omega)) ?_)
  by_cases h3 : (Jg 0 w).length = 0
  · rw [if_pos h3]; exact ql ((zCa w).2 h3) (Ev.now _)
  · rw [if_neg h3]
    refine ZD (fun e => h3 ((zCa w).1 e)) (Ev.bind (Qr w hw) ?_)
    have := JF v w hl (by omega) sv sw w.length 0 1000 [] (by omega) (by simp)
    rw [List.drop_zero, List.drop_zero, List.nil_append] at this
    exact this
end Go.Proofs.Ythjpdljdodalaaa.P
namespace Go.Proofs.Ythjpdljdodalaaa.Pure
open Go.RowKit Go.Proofs.Ythjpdljdodalaaa.P Go.Proofs.Ythjpdljdodalaaa.Lib Go.Proofs.YthjpdljdodalaaaW.PrintWords
theorem Jp (l : List (List qT)) (x y : List Int) (h : Fits l) (hx : x.length ≤ 9223372036854775807) (hy : y.length ≤ 9223372036854775807) : ∃ k, ZG.f k l x y = some true := by
  refine Ev.rounds ?_
  by_cases hx1 : (x.length : Int) > 1048576
  · exact ql hx1 (Ev.now true)
  refine ZD hx1 ?_
  by_cases hy1 : (y.length : Int) > 1048576
  · exact ql hy1 (Ev.now true)
  refine ZD hy1 ?_
  obtain ⟨r, hr, hs⟩ := zA1 l h
  refine Ev.bind hr ?_
  by_cases hn : r < 0
  · exact ql hn (Ev.now true)
  have hsm := hs hn
  have hto := zA2 l hsm
  have htx := zAp x (by omega)
  have hty := zAp y (by omega)
  have hS := zEO hsm
  have hsp := zCd (cvT l) x y (by omega) (by omega)
  have him := zCe hS x y (by omega)
  generalize mult (cvT l) x y = o at *
  have hex := zAq x (by omega)
  have hey := zAq y (by omega)
  refine ZD hn ?_
  refine Ev.bind hto ?_
  refine Ev.bind htx ?_
  refine Ev.bind hty ?_
  refine Ev.bind hsp ?_
  refine Ev.bind hto ?_
  refine Ev.bind htx ?_
  refine Ev.bind hty ?_
  refine Ev.bind him ?_
  refine ql rfl ?_
  refine ql rfl ?_
  refine Ev.bind hto ?_
  refine Ev.bind (zA3 _ hS) (ql rfl ?_)
  refine Ev.bind htx ?_
  refine Ev.bind hex (ql rfl ?_)
  refine Ev.bind hty ?_
  refine Ev.bind hey (ql rfl ?_)
  exact Ev.now true
end Go.Proofs.Ythjpdljdodalaaa.Pure
namespace Go.Proofs.Ythjpdljdodalaaa.Lib
open Go.RowKit Go.Proofs.YthjpdljdodalaaaW.PrintWords Go.Joins Go.Deep Go.WideShapes Go.ChangeShapes
set_option linter.unusedVariables false
def zDp (P : Program) (t : TypeId) {α : Type} (d : Kd α) : Prop := ∀ (H : Type) (enc : TypeId × Value → H) (w : World) (base : Nat) (spare : Nat → Bool) (held : Bool) (fuel : Nat) (cs : List Value) (x : DataW H × List MemPlace),
  DataW.trod enc P w base spare held fuel t cs = some x → ∃ y, d.K w y cs
theorem zCf {P : Program} {t : TypeId} {k : IntKind} (ht : P.underlying t = some (.int k)) : zDp P t (Kd.int k) := by
  intro H enc w base spare held fuel cs x h
  obtain ⟨n, rfl, _, _⟩ := DataW.trod_int ht h
  exact ⟨n, rfl⟩
theorem zCg {α : Type} {R : Nat → α → Prop} : ∀ n, (∀ i, i < n → ∃ y, R i y) → ∃ ys : List α, ys.length = n ∧ ∀ j p, ys[j]? = some p → R j p
  | 0, _ => ⟨[], rfl, fun j p h => by simp at h⟩
  | n + 1, h => by
    obtain ⟨ys, hl, hr⟩ := zCg n (fun i hi => h i (by omega))
    obtain ⟨y, hy⟩ := h n (by omega)
    refine ⟨ys ++ [y], by simp [hl], fun j p hj => ?_⟩
    by_cases hlt : j < n
    · rw [List.getElem?_append_left (by omega)] at hj
      exact hr j p hj
    · have hjn : j < (ys ++ [y]).length := (List.getElem?_eq_some_iff.1 hj).1
      have : j = n := by simp [hl] at hjn; omega
      subst this
      rw [List.getElem?_append_right (by omega), hl, Nat.sub_self] at hj
      injection hj with hj
      rw [← hj]
      exact hy
theorem JG {P : Program} {t e : TypeId} {α : Type} {d : Kd α} (ht : P.underlying t = some (.slice e)) (hc : P.cellsOf e = d.sz) (h : zDp P e d) : zDp P t (Kd.slice e d) := by
  intro H enc w base spare held fuel cs x hx
  rcases open_slice ht hx with ⟨rfl, _⟩ | ⟨a, len, cap, m, n, D, Pl, rfl, hb, hl, hm, hmm, _, hi⟩
  · exact ⟨[], none, 0, rfl, yqy _, Kd.C_nil d w⟩
  · have each : ∀ i, i < len → ∃ y, ∃ cs', w.cells? base (a.add (i * d.sz)) d.sz = some cs' ∧ d.K w y cs' := by
      intro i hil
      have him : i < m := by rw [hmm]; split <;> omega
      obtain ⟨cs', h1, h2⟩ := hi i him
      obtain ⟨y, hy⟩ := h H enc w base spare held n cs' _ h2
      rw [hc] at h1
      exact ⟨y, cs', h1, hy⟩
    obtain ⟨ys, hlen, hys⟩ := zCg len each
    refine ⟨ys, some a, cap, by rw [hlen], by omega, rfl, ?_, fun _ => ⟨a, rfl, fun j p hj => ?_⟩⟩
    · unfold maxLen at hm; omega
    · obtain ⟨cs', h1, h2⟩ := hys j p hj
      obtain ⟨_, h3, h4⟩ := World.cells?_some h1
      refine ⟨cs', h3, h2, fun i u hu => ?_⟩
      have hil : i < d.sz := by rw [← h3]; exact (List.getElem?_eq_some_iff.1 hu).1
      rw [← hu, ← h4 i hil, Go.Deep.add_add]
theorem zC6 {P : Program} {t : TypeId} {f0 f1 : Field} {α : Type} (hs : P.underlying t = some (.struct #[f0, f1])) (hone : oneCellFields P #[f0, f1] = true) (hC : P.cellsOf t = 2)
    (h0 : P.underlying f0.type = some (.int .i64)) (h1 : P.underlying f1.type = some (.int .i64)) (d : Kd α) (mk : Int → Int → α) (hK : ∀ w a b, d.K w (mk a b) [.int .i64 a, .int .i64 b]) : zDp P t d := by
  intro H enc w base spare held fuel cs x h
  obtain ⟨y0, y1, n, hx, hl, g0, g1⟩ := trod_struct2 hs h
  obtain ⟨o0, k0⟩ := hone_of hone 0 f0 rfl
  obtain ⟨o1, k1⟩ := hone_of hone 1 f1 rfl
  rw [hC] at hl
  match cs, hl with
  | [c0, c1], _ =>
    rw [o0, k0] at g0
    rw [o1, k1] at g1
    obtain ⟨a, e0, _, _⟩ := DataW.trod_int h0 g0
    obtain ⟨b, e1, _, _⟩ := DataW.trod_int h1 g1
    simp at e0 e1
    subst e0 e1
    exact ⟨mk a b, hK w a b⟩
section
variable {H : Type} {enc : TypeId × Value → H} {P : Program} {w : World} {base : Nat} {spare : Nat → Bool} {held : Bool}
theorem array1 {α : Type} {cs : Array α} (h : cs.size = 1) : ∃ c0, cs = #[c0] := by
  obtain ⟨l⟩ := cs
  match l, h with
  | [c0], _ => exact ⟨c0, rfl⟩
theorem zDP {r : Reach} {b0 : Nat} {t e : TypeId} {α : Type} {d : Kd α} {v : Value} {D : DataW H} {p : List MemPlace} (hu : P.underlying t = some (.slice e)) (ho : zDp P t (Kd.slice e d)) (hv : Value.okWide P w r b0 t v) (h : DataW.Trod enc P w base spare held t v D p) :
    ∃ (A : Option Addr) (c : Nat) (l : List α), v = .slice A l.length c ∧ l.length ≤ c ∧ d.C w A l.length l := by
  obtain ⟨a0, len, cap, rfl⟩ := okWide_slice hu hv
  obtain ⟨fuel, hf⟩ := h
  obtain ⟨l, A, c, e1, hl, hC⟩ := ho H enc w base spare held fuel _ _ hf
  simp [Value.cells] at e1
  obtain ⟨rfl, rfl, rfl⟩ := e1
  exact ⟨_, _, l, rfl, hl, hC⟩
theorem zEa {r : Reach} {b0 : Nat} {t e : TypeId} {f0 : Field} {α : Type} {d : Kd α} {v : Value} {D : DataW H} {p : List MemPlace} (hs : P.underlying t = some (.struct #[f0])) (hone : oneCellFields P #[f0] = true) (hC : P.cellsOf t = 1)
    (ho : zDp P f0.type (Kd.slice e d)) (hv : Value.okWide P w r b0 t v) (h : DataW.Trod enc P w base spare held t v D p) :
    ∃ (A : Option Addr) (c : Nat) (l : List α), v = .agg #[.slice A l.length c] ∧ l.length ≤ c ∧ d.C w A l.length l := by
  obtain ⟨cs, rfl, hsz⟩ := okWide_struct hs hv
  obtain ⟨c0, rfl⟩ := array1 (hsz.trans hC)
  obtain ⟨fuel, hf⟩ := h
  obtain ⟨y0, n, hx, _, h0⟩ := trod_struct1 hs hf
  obtain ⟨o0, k0⟩ := hone_of hone 0 f0 rfl
  have h0' : DataW.trod enc P w base spare held n f0.type [c0] = some y0 := by simpa [Value.cells, o0, k0] using h0
  obtain ⟨l, A, c, e1, hl, hCC⟩ := ho H enc w base spare held n _ _ h0'
  simp at e1
  subst e1
  exact ⟨A, c, l, rfl, hl, hCC⟩
end
theorem zEb {e : Nat} {α : Type} {d : Kd α} {w : World} {A : Option Addr} {l : List (List α)} (h : (Kd.slice e d).C w A l.length l) : l.length ≤ 9223372036854775807 ∧ ∀ r ∈ l, r.length ≤ 9223372036854775807 := by
  refine ⟨h.2.1, fun r hr => ?_⟩
  obtain ⟨j, hj, rfl⟩ := List.mem_iff_getElem.1 hr
  obtain ⟨ad, _, hc⟩ := h.2.2 (by omega)
  obtain ⟨c, _, hK, _⟩ := hc j _ (List.getElem?_eq_getElem hj)
  obtain ⟨A', c', _, _, hC⟩ := hK
  exact hC.2.1
end Go.Proofs.Ythjpdljdodalaaa.Lib
namespace Go.Proofs.Ythjpdljdodalaaa.fnExactMultiplicity
open Go.ChangeShapes Go.WideShapes Go.ChangeAt Go.RowKit Go.Proofs.Ythjpdljdodalaaa.Lib Go.Proofs.YthjpdljdodalaaaW.PrintWords Go.Proofs.Ythjpdljdodalaaa.P
open Go.ChangeMaps (open_string shut_string)
set_option linter.unusedVariables false
theorem own : ownKnob Try.prog.godebug = none := by kernel_rfl
theorem laidOut : laidOutB Try.prog = true := by kernel_rfl
set_option maxRecDepth 100000 in
theorem lifted (os : Os) (started : os.Started) (H : Type) (enc : TypeId × Value → H) :
    ReturnsInHanded {} Try.checked os 9 .any (Rows.fnExactMultiplicitySpec.pre6 enc Try.prog Try.f9 Rows.fnExactMultiplicityRow.domain false) (Rows.fnExactMultiplicitySpec.post enc Try.prog Try.f9 false true false false) := by
  refine returnsInHanded_of_change_sized (C := Try.checked) own started (by kernel_rfl) Try.func9
    (ChangeSpec.witness6 (enc := enc) (C := Try.checked) false ⟨#[], #[.agg #[.slice none 0 0], .slice none 0 0, .slice none 0 0], []⟩ 8 (by kernel_rfl) (by kernel_rfl) (by kernel_rfl) (by kernel_rfl)) ?_
  intro W base args ds gs before hval0 hW hcnd hsz0 _
  have hval : ∀ (j : Nat) t v, Try.f9.params[j]? = some t → args[j]? = some v → Value.okWide Try.prog W .any base t v := hval0
  have hW' := hW
  obtain ⟨p, q, hA0, hV, rfl, hfz, hnd⟩ := hW
  have hA : DataW.TrodAll enc Try.prog W 0 (fun _ => true) true Try.f9.params.toList args.toList ds p := hA0
  rw [Try.params9] at hA hval
  obtain ⟨v0, vs0, d0, ds0, p0, q0, hargs, rfl, rfl, h0, r0⟩ := trodAll_cons hA
  obtain ⟨v1, vs1, d1, ds1, p1, q1, rfl, rfl, rfl, h1, r1⟩ := trodAll_cons r0
  obtain ⟨v2, vs2, d2, ds2, p2, q2, rfl, rfl, rfl, h2, r2⟩ := trodAll_cons r1
  obtain ⟨rfl, rfl, rfl⟩ := trodAll_nil r2
  obtain rfl : args = #[v0, v1, v2] := by cases args; simp_all
  obtain ⟨rfl, rfl⟩ := trodVars_none hV
  have k0 := h0
  have lt0 : ∀ x ∈ p0, x.block < W.heap.size := by obtain ⟨m, hm⟩ := k0; exact DataW.trod_lt m _ _ _ hm
  obtain ⟨A0, c0, l0, rfl, hl0, hC0⟩ := zEa Try.underlying24 (by kernel_rfl) (by kernel_rfl) (JG Try.underlying22 (by kernel_rfl) (JG Try.underlying103 (by kernel_rfl) (zC6 Try.underlying136 (by kernel_rfl) (by kernel_rfl) Try.underlying2 Try.underlying2 Zr (fun a b => (⟨a, b⟩ : qT)) (fun w a b => zCp w ⟨a, b⟩)))) (hval 0 24 v0 rfl rfl) h0
  have k1 := h1
  have lt1 : ∀ x ∈ p1, x.block < W.heap.size := by obtain ⟨m, hm⟩ := k1; exact DataW.trod_lt m _ _ _ hm
  obtain ⟨A1, c1, l1, rfl, hl1, hC1⟩ := zDP Try.underlying25 (JG Try.underlying25 (by kernel_rfl) (zCf Try.underlying2)) (hval 1 25 v1 rfl rfl) h1
  have k2 := h2
  have lt2 : ∀ x ∈ p2, x.block < W.heap.size := by obtain ⟨m, hm⟩ := k2; exact DataW.trod_lt m _ _ _ hm
  obtain ⟨A2, c2, l2, rfl, hl2, hC2⟩ := zDP Try.underlying25 (JG Try.underlying25 (by kernel_rfl) (zCf Try.underlying2)) (hval 2 25 v2 rfl rfl) h2
  obtain ⟨k, hk⟩ := Pure.Jp l0 l1 l2 (zEb hC0) hC1.2.1 hC2.2.1
  refine (ZG.calls k _ _ l0 _ _ l1 _ _ l2 W hC0 hl0 hC1 hl1 hC2 hl2 hk).mono fun e W' ⟨he, bel⟩ => ?_
  subst he
  exact ⟨_, rfl, _, _, _, [], _, [], hW', trodAll_mk1 (shut_bool Try.underlying4 _), (trodAll_cons_mk (Below.trod laidOut (by kernel_rfl) (of_decide_eq_true (by kernel_rfl)) k0 bel lt0) (trodAll_cons_mk (Below.trod laidOut (by kernel_rfl) (of_decide_eq_true (by kernel_rfl)) k1 bel lt1) (trodAll_cons_mk (Below.trod laidOut (by kernel_rfl) (of_decide_eq_true (by kernel_rfl)) k2 bel lt2) trodAll_mk0))), rfl, bel.frame _, fun h => by cases h⟩
theorem over : Rows.fnExactMultiplicityRow.holds Try.pinned (OpenSpec.ofChange Rows.fnExactMultiplicitySpec) :=
  OpenClaim.holds_of_wide 9 Try.f9 rfl rfl rfl rfl rfl rfl rfl ⟨rfl, rfl, rfl, rfl, rfl⟩ rfl rfl rfl rfl rfl (by kernel_rfl) Try.func9 (by kernel_rfl)
    (of_decide_eq_true (by kernel_rfl)) (by unfold Func.isWrapper; first | (rw [if_pos (by decide +kernel)]; kernel_rfl) | (rw [if_neg (by decide +kernel)]; exact ⟨rfl, rfl⟩))
    (fun os started H enc _ => lifted os started H enc)
theorem proved : Rows.FnExactMultiplicitySaid := over
#print axioms proved
end Go.Proofs.Ythjpdljdodalaaa.fnExactMultiplicity
namespace Go.Proofs.Ythjpdljdodalaaa
theorem fnExactMultiplicity_holds : Rows.FnExactMultiplicitySaid := fnExactMultiplicity.proved
end Go.Proofs.Ythjpdljdodalaaa
