/- The statement FnExactQuadChoiceSaid, proved: part 7 of 8 (texts of this session and of the kit's print, put together and cut to what is used by a program of it). -/
import Derived.Test.YtdgdnnjigigkcaaMFnExactQuadChoice6
import Derived.Deep.Slices
import Derived.ChangeSame
import Derived.ChangeArms
import Derived.WideShapes
import Derived.Lib.SmallJoins
import Derived.ChangeShapes
namespace Go.Proofs.Ytdgdnnjigigkcaa.P
open Go.RowKit Go.Proofs.YtdgdnnjigigkcaaW.PrintWords Go.Proofs.Ytdgdnnjigigkcaa.Lib
set_option linter.unusedVariables false
def zEk (cols : Nat) (j f b : Int) (p : List Int) : List (List Int) := (zDi [f]).map fun c => zCp cols j f b p c
theorem zBY (cols : Nat) (j f b : Int) (p : List Int) : ∀ (L : List Int) (A : List (List Int)), Qd cols j f b p L (A.flatten, (A.length : Int)) = ((A ++ L.map fun c => zCp cols j f b p c).flatten, ((A ++ L.map fun c => zCp cols j f b p c).length : Int))
 | [], A => by simp [Qd]
 | c :: cs, A => by
  have h := zBY cols j f b p cs (A ++ [zCp cols j f b p c])
  have e1 : (A ++ [zCp cols j f b p c]).flatten = A.flatten ++ zCp cols j f b p c := by simp
  have e2 : ((A ++ [zCp cols j f b p c]).length : Int) = (A.length : Int) + 1 := by simp
  rw [e1, e2] at h
  rw [Qd, h]
  simp
def zEl (cols : Nat) (A : List (List Int)) (j f : Nat) (x : zq) : List (List Int) :=
 if 4 * x.f0 + rd (ZF x.f1) (f : Int) < 4 * (j : Int) + (f : Int) then A else A ++ zEk cols j f x.f0 (ZF x.f1)
theorem zDU {σ τ : Type} {Rel : σ → τ → Prop} {s1 : σ → Nat → Nat → zq → σ} {s2 : τ → Nat → Nat → zq → τ} (h : ∀ a b j f x, Rel a b → Rel (s1 a j f x) (s2 b j f x)) (j : Nat) : ∀ (r : List zq) (f : Nat) (a : σ) (b : τ), Rel a b → Rel (zDj s1 j r f a) (zDj s2 j r f b)
 | [], _, _, _, hr => hr
 | x :: xs, f, a, b, hr => by
  rw [zDj, zDj]
  refine zDU h j xs (f + 1) _ _ ?_
  split
  next =>
   exact hr
  next =>
   exact h _ _ _ _ _ hr
theorem zDV {σ τ : Type} {Rel : σ → τ → Prop} {s1 : σ → Nat → Nat → zq → σ} {s2 : τ → Nat → Nat → zq → τ} (h : ∀ a b j f x, Rel a b → Rel (s1 a j f x) (s2 b j f x)) : ∀ (l : List (List zq)) (j : Nat) (a : σ) (b : τ), Rel a b → Rel (zC4 s1 l j a) (zC4 s2 l j b)
 | [], _, _, _, hr => hr
 | r :: rs, j, a, b, hr => by
  rw [zC4, zC4]
  exact zDV h rs (j + 1) _ _ (zDU h j r 0 a b hr)
def JZ (t : Tri) : List (List Int) := zC4 (zEl (7 * t.length)) t 0 []
theorem zFL (t : Tri) : zBA t = ((JZ t).flatten, ((JZ t).length : Int)) := by
 refine zDV (Rel := fun (a : List Int × Int) (b : List (List Int)) => a = (b.flatten, (b.length : Int))) (fun a b j f x hr => ?_) t 0 ([], 0) [] (by simp)
 rw [hr]
 unfold zA7 zEl
 split
 next =>
  rfl
 next =>
  exact zBY _ _ _ _ _ _ _
def zAb (t : Tri) (a f : Int) : Prop := (fc t a f).f0 > a ∨ ((fc t a f).f0 = a ∧ rd (ZF (fc t a f).f1) f > f)
instance (t : Tri) (a f : Int) : Decidable (zAb t a f) := by unfold zAb; infer_instance
def Qf (t : Tri) (a : Int) : Int → Nat → List (List Int)
 | _, 0 => []
 | f, d + 1 => (if zAb t a f then [[a, f]] else []) ++ Qf t a (f + 1) d
def Qa (t : Tri) : Int → Nat → List (List Int)
 | _, 0 => []
 | a, d + 1 => Qf t a 0 4 ++ Qa t (a + 1) d
def zCB (t : Tri) (p : List Int) : List (List Int) := zEk (7 * t.length) (rd p 0) (rd p 1) (fc t (rd p 0) (rd p 1)).f0 (ZF (fc t (rd p 0) (rd p 1)).f1)
theorem zFu {t : Tri} (h : QJ t = true) {a f : Int} (h0 : 0 ≤ a) (h1 : a < t.length) (hf0 : 0 ≤ f) (hf1 : f ≤ 3) (hb : ¬ (fc t a f).f0 < 0) : zAb t a f ↔ ¬ (4 * (fc t a f).f0 + rd (ZF (fc t a f).f1) f < 4 * a + f) := by
 rcases zAC h h0 h1 hf0 hf1 with ⟨e, _⟩ | ⟨⟨g0, g1, g2, g3⟩, _, _, hn⟩
 next =>
  omega
 next =>
  obtain ⟨k0, k1⟩ := zA8 g2 g3 hf0 hf1
  unfold zAb
  generalize (fc t a f).f0 = b at *
  generalize rd (ZF (fc t a f).f1) f = g at *
  by_cases e : b = a
  rotate_left
  next =>
   constructor <;> intro hh <;> omega
  have : ¬ g = f := fun hc => hn ⟨e, hc⟩
  constructor <;> intro hh <;> omega
theorem zBZ {t : Tri} (h : QJ t = true) (j : Nat) (hj : j < t.length) : ∀ (d f : Nat) (A : List (List Int)), f + d = 4 → zDj (zEl (7 * t.length)) j (t[j].drop f) f A = A ++ (Qf t j f d).flatMap (zCB t)
 | 0, f, A, hf => by
  have h4 : t[j].length = 4 := (Ze h).2.1 _ (List.getElem_mem hj)
  rw [List.drop_eq_nil_of_le (by omega), zDj, Qf]; simp
 | d + 1, f, A, hf => by
  have h4 : t[j].length = 4 := (Ze h).2.1 _ (List.getElem_mem hj)
  have hlt : f < t[j].length := by omega
  have hfc : fc t (j : Int) (f : Int) = t[j][f] := by unfold fc; rw [Qm t j hj, zAK _ f hlt]
  rw [yoy hlt, zDj, zBZ h j hj d (f + 1) _ (by omega), Qf]
  have e1 : ((f : Int) + 1) = ((f + 1 : Nat) : Int) := by omega
  rw [e1, List.flatMap_append, ← List.append_assoc]
  congr 1
  have hff := zFu (a := (j : Int)) (f := (f : Int)) h (by omega) (by omega) (by omega) (by omega)
  by_cases hb : t[j][f].f0 < 0
  next =>
   rw [if_pos hb, if_neg (fun hc => by unfold zAb at hc; rw [hfc] at hc; omega)]; simp
  next =>
   rw [if_neg hb]
   have hff2 := hff (by rw [hfc]; exact hb)
   rw [hfc] at hff2
   unfold zEl
   by_cases hc : 4 * t[j][f].f0 + rd (ZF t[j][f].f1) (f : Int) < 4 * (j : Int) + (f : Int)
   next =>
    rw [if_pos hc, if_neg (fun hq => (hff2.1 hq) hc)]; simp
   next =>
    rw [if_neg hc, if_pos (hff2.2 hc)]
    have e2 : zCB t [(j : Int), (f : Int)] = zEk (7 * t.length) (j : Int) (f : Int) t[j][f].f0 (ZF t[j][f].f1) := by
     show zEk (7 * t.length) (j : Int) (f : Int) (fc t (j : Int) (f : Int)).f0 (ZF (fc t (j : Int) (f : Int)).f1) = _
     rw [hfc]
    simp [e2]
theorem zBa {t : Tri} (h : QJ t = true) : ∀ (d j : Nat) (A : List (List Int)), j + d = t.length → zC4 (zEl (7 * t.length)) (t.drop j) j A = A ++ (Qa t j d).flatMap (zCB t)
 | 0, j, A, hj => by rw [List.drop_eq_nil_of_le (by omega), zC4, Qa]; simp
 | d + 1, j, A, hj => by
  have hlt : j < t.length := by omega
  have e1 : ((j : Int) + 1) = ((j + 1 : Nat) : Int) := by omega
  have h2 := zBZ h j hlt 4 0 A (by omega)
  rw [List.drop_zero] at h2
  rw [yoy hlt, zC4, h2, zBa h d (j + 1) _ (by omega), Qa, List.flatMap_append, List.append_assoc, e1]
  rfl
theorem Ju {t : Tri} (h : QJ t = true) : JZ t = (Qa t 0 t.length).flatMap (zCB t) := by
 have := zBa h t.length 0 [] (by omega)
 rw [List.drop_zero, List.nil_append] at this
 exact this
theorem zFM {t : Tri} (h : QJ t = true) : zFz t := by
 obtain ⟨h8, h4, _⟩ := Ze h
 refine ⟨h8, fun r hr => by rw [h4 r hr]; omega, fun r hr x hx hb => ?_⟩
 obtain ⟨j, hj, rfl⟩ := List.getElem_of_mem hr
 obtain ⟨f, hf, rfl⟩ := List.getElem_of_mem hx
 have h4' := h4 _ (List.getElem_mem hj)
 have hfc : fc t (j : Int) (f : Int) = t[j][f] := by unfold fc; rw [Qm t j hj, zAK _ f hf]
 have := zAC (a := (j : Int)) (f := (f : Int)) h (by omega) (by omega) (by omega) (by omega)
 rw [hfc] at this
 rcases this with ⟨e, _⟩ | ⟨⟨g0, g1, g2, g3⟩, _⟩
 next =>
  omega
 next =>
  exact ⟨g1, g2, g3⟩
theorem zDw {t : Tri} (h : QJ t = true) : zv.f t = some (((JZ t).length : Int), 7 * (t.length : Int), (JZ t).flatten) := by
 unfold zv.f
 rw [if_pos (zFM h), zFL]
theorem zAx {t : Tri} (h : QJ t = true) : ∀ r ∈ JZ t, r.length = 7 * t.length := by
 intro r hr
 rw [Ju h] at hr
 obtain ⟨p, _, hp⟩ := List.mem_flatMap.1 hr
 obtain ⟨c, _, rfl⟩ := List.mem_map.1 hp
 exact zCy _ _ _ _ _ _
theorem zBb (t : Tri) (a : Int) : ∀ (d : Nat) (f : Int), (Qf t a f d).length ≤ d
 | 0, _ => by simp [Qf]
 | d + 1, f => by
  have := zBb t a d (f + 1)
  rw [Qf, List.length_append]
  split <;> simp <;> omega
theorem zAL (t : Tri) : ∀ (d : Nat) (a : Int), (Qa t a d).length ≤ 4 * d
 | 0, _ => by simp [Qa]
 | d + 1, a => by
  have := zAL t d (a + 1)
  have := zBb t a 4 0
  rw [Qa, List.length_append]
  omega
def zEm (t : Tri) (p : List Int) : Prop := ∃ a f : Int, p = [a, f] ∧ 0 ≤ a ∧ a < t.length ∧ 0 ≤ f ∧ f ≤ 3 ∧ ¬ (fc t a f).f0 < 0
theorem zCg (t : Tri) {a : Int} (h0 : 0 ≤ a) (h1 : a < t.length) : ∀ (d : Nat) (f : Int), 0 ≤ f → f + d = 4 → ∀ p ∈ Qf t a f d, zEm t p
 | 0, _, _, _, p, hp => by simp [Qf] at hp
 | d + 1, f, hf, he, p, hp => by
  rw [Qf, List.mem_append] at hp
  rcases hp with hp | hp
  next =>
   by_cases hc : zAb t a f
   rotate_left
   next =>
    rw [if_neg hc] at hp; simp at hp
   rw [if_pos hc] at hp
   have : p = [a, f] := by simpa using hp
   exact ⟨a, f, this, h0, h1, hf, by omega, by unfold zAb at hc; omega⟩
  next =>
   exact zCg t h0 h1 d (f + 1) (by omega) (by omega) p hp
theorem zCh (t : Tri) : ∀ (d : Nat) (a : Int), 0 ≤ a → a + d = t.length → ∀ p ∈ Qa t a d, zEm t p
 | 0, _, _, _, p, hp => by simp [Qa] at hp
 | d + 1, a, ha, he, p, hp => by
  rw [Qa, List.mem_append] at hp
  rcases hp with hp | hp
  next =>
   exact zCg t ha (by omega) 4 0 (by omega) (by omega) p hp
  next =>
   exact zCh t d (a + 1) (by omega) (by omega) p hp
section
variable {t : Tri}
theorem Jv (h : QJ t = true) {a : Int} (h0 : 0 ≤ a) (h1 : a < t.length) {R : List (List Int)} {D : Nat} (hR : ∀ acc : List (List Int), acc.length + D ≤ 100 → Ev (fun k => zi.l0 k acc (a + 1) t) (acc ++ R)) :
 ∀ (d : Nat) (f : Int) (acc : List (List Int)), 0 ≤ f → f + d = 4 → acc.length + d + D ≤ 100 → Ev (fun k => zi.l1 k acc a f t) (acc ++ Qf t a f d ++ R)
 | 0, f, acc, hf, he, hl => by
  have h8 := (Ze h).1
  refine qX (fun k => by rw [zi.l1, if_neg (by omega), qm (by omega) (by omega)]) ?_
  rw [Qf, List.append_nil]; exact hR acc (by omega)
 | d + 1, f, acc, hf, he, hl => by
  obtain ⟨h8, h4, _⟩ := Ze h
  have hr := zG0 h4 h0 h1
  refine qX (fun k => by rw [zi.l1, if_pos (by omega), if_pos h0, if_pos h1, if_pos hf, if_pos (by omega)]) ?_
  rw [Qf]
  have hyes : zAb t a f → Ev (fun k => if acc.length < 5864062014805 then zi.l1 k (acc ++ [[a, f]]) a (wrap64 (f + 1)) t else none) (acc ++ ((if zAb t a f then [[a, f]] else []) ++ Qf t a (f + 1) d) ++ R) := fun hc => by
   rw [if_pos hc]
   refine ql (by omega) (Ev.congr (fun k => by rw [qm (by omega) (by omega)]) ?_)
   have := Jv h h0 h1 hR d (f + 1) (acc ++ [[a, f]]) (by omega) (by omega) (by simp; omega)
   rwa [List.append_assoc acc] at this
  have hno : ¬ zAb t a f → Ev (fun k => zi.l1 k acc a (wrap64 (f + 1)) t) (acc ++ ((if zAb t a f then [[a, f]] else []) ++ Qf t a (f + 1) d) ++ R) := fun hc => by
   rw [if_neg hc, List.nil_append]
   exact Ev.congr (fun k => by rw [qm (by omega) (by omega)]) (Jv h h0 h1 hR d (f + 1) acc (by omega) (by omega) (by omega))
  change Ev (fun k => if (fc t a f).f0 > a then _ else if (fc t a f).f0 = a then (qw.f k (fc t a f).f1 f).bind _ else _) _
  by_cases c1 : (fc t a f).f0 > a
  next =>
   exact ql c1 (hyes (.inl c1))
  next =>
   refine ZO c1 ?_
   by_cases c2 : (fc t a f).f0 = a
   rotate_left
   next =>
    exact ZO c2 (hno (fun hc => by rcases hc with hc | hc; exact c1 hc; exact c2 hc.1))
   have hp : 0 ≤ (fc t a f).f1 ∧ (fc t a f).f1 ≤ 23 := by
    rcases zAC h h0 h1 hf (by omega) with ⟨e, _⟩ | ⟨⟨_, _, g2, g3⟩, _⟩
    next =>
     omega
    next =>
     exact ⟨g2, g3⟩
   refine ql c2 (Ev.bind (zAf hp.1 hp.2 hf (by omega)) ?_)
   by_cases c3 : rd (ZF (fc t a f).f1) f > f
   next =>
    exact ql c3 (hyes (.inr ⟨c2, c3⟩))
   next =>
    exact ZO c3 (hno (fun hc => by rcases hc with hc | hc; exact c1 hc; exact c3 hc.2))
theorem zAy (h : QJ t = true) : ∀ (d : Nat) (a : Int) (acc : List (List Int)), 0 ≤ a → a + d = t.length → acc.length + 4 * d ≤ 100 → Ev (fun k => zi.l0 k acc a t) (acc ++ Qa t a d)
 | 0, a, acc, ha, he, hl => by
  refine qX (fun k => by rw [zi.l0, zn.f, yfy, if_neg (by omega)]) ?_
  rw [Qa, List.append_nil]; exact Ev.now _
 | d + 1, a, acc, ha, he, hl => by
  refine qX (fun k => by rw [zi.l0, zn.f, yfy, if_pos (by omega)]) ?_
  have := Jv h ha (by omega) (R := Qa t (a + 1) d) (D := 4 * d) (fun acc2 hl2 => zAy h d (a + 1) acc2 (by omega) (by omega) hl2) 4 0 acc (by omega) (by omega) (by omega)
  rwa [List.append_assoc] at this
theorem zCC (h : QJ t = true) : Ev (fun k => zi.f k t) (Qa t 0 t.length) := by
 have h8 := (Ze h).1
 have := zAy h t.length 0 [] (by omega) (by omega) (by simp; omega)
 rwa [List.nil_append] at this
theorem zBc {a b : Int} (ha : sm a) (hb : sm b) (hne : b ≠ a) : qD.f a b = some (qd b a) := by
 obtain ⟨ha0, ha1⟩ := ha
 obtain ⟨hb0, hb1⟩ := hb
 rcases (show a = 0 ∨ a = 1 ∨ a = 2 ∨ a = 3 by omega) with rfl | rfl | rfl | rfl <;> rcases (show b = 0 ∨ b = 1 ∨ b = 2 ∨ b = 3 by omega) with rfl | rfl | rfl | rfl <;> first | exact absurd rfl hne | decide +kernel
theorem qd_bd {a b : Int} (ha : sm a) (hb : sm b) (hne : a ≠ b) : 0 ≤ qd a b ∧ qd a b ≤ 2 := (zCx ha hb hne).2
theorem zBd (h : QJ t = true) {P : List (List Int)} {i : Int} {a f : Int} (h0 : 0 ≤ a) (h1 : a < t.length) (hf0 : 0 ≤ f) (hf1 : f ≤ 3) (hb : ¬ (fc t a f).f0 < 0) {R : List (List Int)} {D : Nat} (hi : 0 ≤ i) (hi2 : i ≤ 1000)
 (hR : ∀ acc : List (List Int), acc.length + D ≤ 1000 → Ev (fun k => ze.l0 k acc P (i + 1) t) (acc ++ R)) :
 ∀ (d : Nat) (c : Int) (acc : List (List Int)), 0 ≤ c → c + d = 4 → acc.length + d + D ≤ 1000 → Ev (fun k => ze.l1 k acc P i a f c t) (acc ++ ((Zk c d).filter fun x => ![f].contains x).map (fun x => zCp (7 * t.length) a f (fc t a f).f0 (ZF (fc t a f).f1) x) ++ R)
 | 0, c, acc, hc, he, hl => by
  refine qX (fun k => by rw [ze.l1, if_neg (by omega), qm (by omega) (by omega)]) ?_
  rw [Zk]; simp only [List.filter_nil, yky, List.append_nil]; exact hR acc (by omega)
 | d + 1, c, acc, hc, he, hl => by
  obtain ⟨h8, h4, _⟩ := Ze h
  have ih := fun (acc2 : List (List Int)) (hl2 : acc2.length + d + D ≤ 1000) => zBd h h0 h1 hf0 hf1 hb hi hi2 hR d (c + 1) acc2 (by omega) (by omega) hl2
  by_cases hcf : c = f
  next =>
   refine qX (fun k => by rw [ze.l1, if_pos (by omega), if_pos hcf, qm (by omega) (by omega)]) ?_
   have e1 : (![f].contains c) = false := by simp [hcf]
   rw [Zk, List.filter_cons, e1, if_neg (by simp)]
   exact ih acc (by omega)
  next =>
   have e1 : (![f].contains c) = true := by simp [hcf]
   have hsc : sm c := ⟨hc, by omega⟩
   have hsf : sm f := ⟨hf0, hf1⟩
   obtain ⟨g0, g1, g2, g3⟩ : 0 ≤ (fc t a f).f0 ∧ (fc t a f).f0 < (t.length : Int) ∧ 0 ≤ (fc t a f).f1 ∧ (fc t a f).f1 ≤ 23 := by
    rcases zAC h h0 h1 hf0 hf1 with ⟨e, _⟩ | ⟨e, _⟩
    next =>
     omega
    next =>
     exact e
   have hd := zA8 g2 g3 hc (show c ≤ 3 by omega)
   have hx := zA8 g2 g3 hf0 hf1
   have hne := zCZ g2 g3 hsc hsf hcf
   obtain ⟨q0, q1⟩ := qd_bd hsc hsf hcf
   obtain ⟨r0, r1⟩ := qd_bd hd hx hne
   have hmr : zCp (7 * t.length) a f (fc t a f).f0 (ZF (fc t a f).f1) c = zAI (zAI (zA6 (zA6 (List.replicate (7 * t.length) 0) (7 * a + c)) (7 * a + 4 + qd c f)) (7 * (fc t a f).f0 + rd (ZF (fc t a f).f1) c)) (7 * (fc t a f).f0 + 4 + qd (rd (ZF (fc t a f).f1) c) (rd (ZF (fc t a f).f1) f)) := rfl
   have hcorner : Ev (fun k => qZ.f k t a f c) ((fc t a f).f0, rd (ZF (fc t a f).f1) f, rd (ZF (fc t a f).f1) c) := by
    have hr := zG0 h4 h0 h1
    refine Ev.congr (fun k => by unfold qZ.f; rw [if_pos h0, if_pos h1, if_pos hf0, if_pos (by omega)]) ?_
    exact Ev.bind (zAf g2 g3 hf0 hf1) (Ev.bind (zAf g2 g3 hc (by omega)) (Ev.now _))
   have hbt1 := zBc hsf hsc hcf
   have hbt2 := zBc (show sm (rd (ZF (fc t a f).f1) f) from hx) (show sm (rd (ZF (fc t a f).f1) c) from hd) hne
   have hlt : (7 * (t.length : Int)) = ((7 * t.length : Nat) : Int) := by omega
   rw [Zk, List.filter_cons, e1, if_pos rfl, yjy, hmr]
   generalize (fc t a f).f0 = b at *
   generalize rd (ZF (fc t a f).f1) c = dd at *
   generalize rd (ZF (fc t a f).f1) f = x at *
   generalize qd c f = q at *
   generalize qd dd x = q2 at *
   obtain ⟨d0, d1⟩ := hd
   have w1 : wrap64 (7 * a) = 7 * a := qm (by omega) (by omega)
   have w2 : wrap64 (7 * a + c) = 7 * a + c := qm (by omega) (by omega)
   have w3 : wrap64 (7 * a + 4) = 7 * a + 4 := qm (by omega) (by omega)
   have w4 : wrap64 (7 * a + 4 + q) = 7 * a + 4 + q := qm (by omega) (by omega)
   have w5 : wrap64 (7 * b) = 7 * b := qm (by omega) (by omega)
   have w6 : wrap64 (7 * b + dd) = 7 * b + dd := qm (by omega) (by omega)
   have w7 : wrap64 (7 * b + 4) = 7 * b + 4 := qm (by omega) (by omega)
   have w8 : wrap64 (7 * b + 4 + q2) = 7 * b + 4 + q2 := qm (by omega) (by omega)
   have w9 : wrap64 (7 * (t.length : Int)) = 7 * (t.length : Int) := qm (by omega) (by omega)
   have w10 : wrap64 (c + 1) = c + 1 := qm (by omega) (by omega)
   have hln : (List.replicate (7 * t.length) (0 : Int)).length = 7 * t.length := List.length_replicate
   refine qX (fun k => by rw [ze.l1, if_pos (by omega), if_neg hcf, zn.f, yfy, w9, if_pos (by omega), if_pos (by omega), yfy, hlt, yny]) ?_
   refine Ev.bind hcorner ?_
   dsimp only
   refine Ev.congr (fun k => by rw [w1, w2, if_pos (by omega), if_pos (by rw [hln]; omega), yfy, hbt1, yfy, w3, w4, if_pos (by omega), if_pos (by rw [hln]; omega), yfy, w5, w6, if_pos (by omega), if_pos (by rw [hln]; omega), yfy, hbt2, yfy, w7, w8, if_pos (by omega), if_pos (by rw [hln]; omega), if_pos (by omega), w10]) ?_
   have := ih (acc ++ [zAI (zAI (zA6 (zA6 (List.replicate (7 * t.length) 0) (7 * a + c)) (7 * a + 4 + q)) (7 * b + dd)) (7 * b + 4 + q2)]) (by simp; omega)
   rw [List.append_assoc acc] at this
   exact this
theorem zBe (h : QJ t = true) {P : List (List Int)} (hP : ∀ p ∈ P, zEm t p) (hPl : P.length ≤ 100) : ∀ (d i : Nat) (acc : List (List Int)), i + d = P.length → acc.length + 4 * d ≤ 1000 → Ev (fun k => ze.l0 k acc P (i : Int) t) (acc ++ (P.drop i).flatMap (zCB t))
 | 0, i, acc, he, hl => by
  refine qX (fun k => by rw [ze.l0, if_neg (by omega)]) ?_
  rw [List.drop_eq_nil_of_le (by omega)]; simp only [List.flatMap_nil, List.append_nil]; exact Ev.now _
 | d + 1, i, acc, he, hl => by
  have hlt : i < P.length := by omega
  obtain ⟨a, f, hp, h0, h1, hf0, hf1, hb⟩ := hP P[i] (List.getElem_mem hlt)
  have ex : zW P (i : Int) = [a, f] := by simp [zW, hlt, hp]
  refine qX (fun k => by rw [ze.l0, if_pos (by omega), if_pos (by omega), ex, if_pos (by simp), if_pos (by simp)]) ?_
  have := zBd h (P := P) (i := (i : Int)) h0 h1 hf0 hf1 hb (R := (P.drop (i + 1)).flatMap (zCB t)) (D := 4 * d) (by omega) (by omega) (fun acc2 hl2 => zBe h hP hPl d (i + 1) acc2 (by omega) hl2) 4 0 acc (by omega) (by omega) (by omega)
  rw [List.append_assoc] at this
  rw [yoy hlt, hp, List.flatMap_cons]
  exact this
theorem zCi (h : QJ t = true) : Ev (fun k => ze.f k t) (JZ t) := by
 have h8 := (Ze h).1
 have hl := zAL t t.length 0
 refine Ev.bind (zCC h) ?_
 have := zBe h (zCh t t.length 0 (by omega) (by omega)) (by omega) (Qa t 0 t.length).length 0 [] (by omega) (by simp; omega)
 rw [List.nil_append, List.drop_zero, ← Ju h] at this
 exact this
theorem zBf (h : QJ t = true) : (JZ t).length ≤ 1000 := by
 have h8 := (Ze h).1
 have hl := zAL t t.length 0
 rw [Ju h, List.length_flatMap]
 have : ∀ P : List (List Int), ((P.map fun p => (zCB t p).length).sum) ≤ 4 * P.length := by
  intro P
  induction P with
  | nil => simp
  | cons p ps ih =>
   simp only [yjy, List.sum_cons, List.length_cons]
   have h1 : (zCB t p).length ≤ 4 := by unfold zCB zEk; rw [List.length_map]; exact zDO _
   omega
 have := this (Qa t 0 t.length)
 omega
end
def JE (t : Tri) : Int := if QJ t then (if (t.length : Int) > 6 then 3 else 0) else 1
def inR (x : Int) : Bool := decide (0 ≤ x) && decide (x ≤ 1000)
theorem Qi {t : Tri} (h : JE t = 0) : QJ t = true ∧ t.length ≤ 6 := by
  unfold JE at h
  cases ht : QJ t with
  | false => rw [ht] at h; simp at h
  | true =>
    rw [ht, if_pos rfl] at h
    refine ⟨rfl, ?_⟩
    by_cases hl : (t.length : Int) > 6
    · rw [if_pos hl] at h; simp at h
    · omega
theorem zAD (t : Tri) : Ev (fun k => ZN.f k t) (JE t) := by
  refine Ev.bind (zCA t) ?_
  unfold JE
  cases QJ t with
  | false => exact ZO (by simp) (Ev.now _)
  | true =>
    refine ql rfl (Ev.bind (Qq (by unfold zn.f; rfl)) ?_)
    rw [if_pos rfl]
    by_cases hl : (t.length : Int) > 6
    · exact ql hl (Jt (if_pos hl).symm)
    · exact ZO hl (Jt (if_neg hl).symm)
theorem JO {t : Tri} (hs : Small t) : Ev (fun k => ZV.f k t) (JE t) := by
  refine Ev.bind (zC9 hs) ?_
  unfold JE
  cases QJ t with
  | false => exact ZO (by simp) (Ev.now _)
  | true =>
    refine ql rfl ?_
    rw [if_pos rfl]
    by_cases hl : (t.length : Int) > 6
    · exact ql hl (Jt (if_pos hl).symm)
    · exact ZO hl (Jt (if_neg hl).symm)
theorem zFN (a b c : Int) : QR.f a b c = some (decide (b ≤ a) && decide (a ≤ c)) := by
  unfold QR.f
  by_cases h : b ≤ a <;> simp [h]
theorem zCD {α : Type} (l : List α) (z : α) (n : Nat) (h : n < l.length) :
    (l.take n ++ List.replicate (l.length - n) z).set n l[n] = l.take (n + 1) ++ List.replicate (l.length - (n + 1)) z := by
  have e : l.length - n = (l.length - (n + 1)) + 1 := by omega
  rw [e, List.replicate_succ, List.set_append_right _ _ (by simp; omega)]
  have : n - (l.take n).length = 0 := by simp; omega
  rw [this, yby, List.take_succ_eq_append_getElem h, List.append_assoc]
  rfl
theorem zD7 (l : List Int) (h : l.length ≤ 4398046511104) : Ev (fun k => qK.f k l) l := by
  have hl : Ev (fun k => qK.l0 k l (List.replicate l.length 0) 0) l := by
    refine Qp (fun k (s : List Int × Int) => qK.l0 k l s.1 s.2) (fun s => ∃ n : Nat, n ≤ l.length ∧ s.2 = n ∧ s.1 = l.take n ++ List.replicate (l.length - n) 0) (fun s => l.length - s.2.toNat) (fun _ => l) ?_ (List.replicate l.length 0, 0) ⟨0, by omega, rfl, by simp⟩
    rintro ⟨a, i⟩ ⟨n, hn, rfl, rfl⟩
    dsimp only
    by_cases hlt : n < l.length
    · refine .inr ⟨(l.take (n + 1) ++ List.replicate (l.length - (n + 1)) 0, ((n + 1 : Nat) : Int)), ⟨n + 1, by omega, rfl, rfl⟩, by simp; omega, rfl, fun k => ?_⟩
      simp only [qK.l0]
      rw [if_pos (by omega), if_pos (by omega), if_pos (by simp; omega), ZS (by omega), yny, zBC l n hlt, zCD l 0 n hlt]
    · obtain rfl : n = l.length := by omega
      refine .inl fun k => ?_
      simp only [qK.l0]
      rw [if_neg (by omega)]
      simp
  refine Ev.congr (fun k => ?_) hl
  unfold qK.f
  rw [if_pos (by omega), if_pos (by simp; omega), yny]
theorem zAz (l : List Int) (h : l.length ≤ 4398046511104) : Ev (fun k => qO.f k l l) true := by
  have hl : Ev (fun k => qO.l0 k l l 0) true := by
    refine Qp (fun k (s : Int) => qO.l0 k l l s) (fun s => ∃ n : Nat, n ≤ l.length ∧ s = n) (fun s => l.length - s.toNat) (fun _ => true) ?_ 0 ⟨0, by omega, rfl⟩
    rintro i ⟨n, hn, rfl⟩
    by_cases hlt : n < l.length
    · refine .inr ⟨((n + 1 : Nat) : Int), ⟨n + 1, by omega, rfl⟩, by simp; omega, rfl, fun k => ?_⟩
      simp only [qO.l0]
      rw [if_pos (by omega), if_pos (by omega), if_pos (by omega), if_pos trivial, ZS (by omega)]
    · refine .inl fun k => ?_
      simp only [qO.l0]
      rw [if_neg (by omega)]
  refine Ev.congr (fun k => ?_) hl
  unfold qO.f
  rw [if_pos rfl]
theorem zD8 (l : List Int) (a : Int) (n : Nat) (h : n < l.length) : (Zk a n ++ l.drop n).set n (a + n) = Zk a (n + 1) ++ l.drop (n + 1) := by
  rw [List.set_append_right _ _ (by rw [QI]; omega), QI, Nat.sub_self, yoy h, yby, zD3, List.append_assoc]
  rfl
theorem zAE (l : List Int) (a : Int) (h : l.length ≤ 4398046511104) (h0 : 0 ≤ a) (h1 : a ≤ 4398046511104) : Ev (fun k => qP.f k l a) (a + l.length, Zk a l.length) := by
  have hl : Ev (fun k => qP.l0 k l a 0) (a + l.length, Zk a l.length) := by
    refine Qp (fun k (s : List Int × Int × Int) => qP.l0 k s.1 s.2.1 s.2.2) (fun s => ∃ n : Nat, n ≤ l.length ∧ s.2.2 = n ∧ s.2.1 = a + n ∧ s.1 = Zk a n ++ l.drop n) (fun s => l.length - s.2.2.toNat) (fun _ => (a + l.length, Zk a l.length)) ?_ (l, a, 0) ⟨0, by omega, rfl, by simp, by simp [Zk]⟩
    rintro ⟨x, b, i⟩ ⟨n, hn, rfl, rfl, rfl⟩
    dsimp only
    have hlen : (Zk a n ++ l.drop n).length = l.length := by simp [QI]; omega
    by_cases hlt : n < l.length
    · refine .inr ⟨(Zk a (n + 1) ++ l.drop (n + 1), a + ((n + 1 : Nat) : Int), ((n + 1 : Nat) : Int)), ⟨n + 1, by omega, rfl, rfl, rfl⟩, by simp; omega, rfl, fun k => ?_⟩
      simp only [qP.l0]
      rw [if_pos (by rw [hlen]; omega), if_pos (by omega), ZS (by omega), yny, zD8 l a n hlt, qm (by omega) (by omega)]
      congr 1; omega
    · obtain rfl : n = l.length := by omega
      refine .inl fun k => ?_
      simp only [qP.l0]
      rw [if_neg (by rw [hlen]; omega)]
      simp
  exact hl
theorem zCE (a : Int) (m : Nat) (h : m ≤ 4398046511104) (h0 : 0 ≤ a) (h1 : a ≤ 4398046511104) : Ev (fun k => qS.f k (Zk a m) a) (a + m) := by
  have hl : Ev (fun k => qS.l0 k (Zk a m) a 0) (a + m) := by
    refine Qp (fun k (s : Int × Int) => qS.l0 k (Zk a m) s.1 s.2) (fun s => ∃ n : Nat, n ≤ m ∧ s.2 = n ∧ s.1 = a + n) (fun s => m - s.2.toNat) (fun _ => a + m) ?_ (a, 0) ⟨0, by omega, rfl, by simp⟩
    rintro ⟨b, i⟩ ⟨n, hn, rfl, rfl⟩
    dsimp only
    by_cases hlt : n < m
    · refine .inr ⟨(a + ((n + 1 : Nat) : Int), ((n + 1 : Nat) : Int)), ⟨n + 1, by omega, rfl, rfl⟩, by simp; omega, rfl, fun k => ?_⟩
      simp only [qS.l0]
      rw [if_pos (by rw [QI]; omega), if_pos (by omega), if_pos (by rw [rd_nat, zDq a m n hlt]), ZS (by omega), qm (by omega) (by omega)]
      congr 1; omega
    · obtain rfl : n = m := by omega
      refine .inl fun k => ?_
      simp only [qS.l0]
      rw [if_neg (by rw [QI]; omega)]
  exact hl
def Ji (R : List (List Int)) (v : List Int) : Bool := R.all fun r => decide (zDo r v 0 = 0)
def Qn (t : Tri) (v : List Int) : Bool := if (v.length : Int) = 7 * (t.length : Int) then (if v.all inR = true then Ji (JZ t) v else false) else false
def zAY (t : Tri) (v : List Int) : Bool := if JE t = 0 then Qn t v else false
theorem zDx {t : Tri} {v : List Int} (hv : v.length ≤ 4398046511104) {R : Bool} (hR : Ev (fun k => (ze.f k t).bind fun t106 => zc.l1 k v t106 0) R) (d : Nat) : ∀ n : Nat, n + d = v.length → Ev (fun k => zc.l0 k v (n : Int) t) (if (v.drop n).all inR = true then R else false) := by
  induction d with
  | zero =>
    intro n hn
    refine qX (fun k => by rw [zc.l0, if_neg (by omega)]) ?_
    rw [List.drop_eq_nil_of_le (by omega), if_pos (by rfl)]; exact hR
  | succ d ih =>
    intro n hn
    have hlt : n < v.length := by omega
    refine qX (fun k => by rw [zc.l0, if_pos (by omega), if_pos (by omega), zBC v n hlt, zFN, yfy, ZS (by omega)]) ?_
    rw [yoy hlt, List.all_cons]
    change Ev (fun k => if inR v[n] = true then _ else _) _
    cases h : inR v[n] with
    | false => exact ZO (by simp) (by rw [Bool.false_and, if_neg (by simp)]; exact Ev.now _)
    | true => exact ql rfl (by rw [Bool.true_and]; exact ih (n + 1) (by omega))
theorem zB0 (r v : List Int) (hl : r.length ≤ v.length) (hr : r.length ≤ 1000000) : ∀ (d n : Nat) (s : Int), n + d = r.length → Ev (fun k => qz.l0 k r v s (n : Int)) (zDo (r.drop n) (v.drop n) s)
  | 0, n, s, hn => by
    refine qX (fun k => by rw [qz.l0, if_neg (by omega)]) ?_
    rw [List.drop_eq_nil_of_le (by omega)]
    cases v.drop n <;> exact Ev.now _
  | d + 1, n, s, hn => by
    have hlt : n < r.length := by omega
    have hlv : n < v.length := by omega
    refine qX (fun k => by rw [qz.l0, if_pos (by omega), if_pos (by omega), if_pos (by omega), zBC r n hlt, zBC v n hlv, ZS (by omega)]) ?_
    rw [yoy hlt, yoy hlv, zDo]
    exact zB0 r v hl hr d (n + 1) _ (by omega)
theorem zD9 (r v : List Int) (hl : r.length ≤ v.length) (hr : r.length ≤ 1000000) : Ev (fun k => qz.f k r v) (zDo r v 0) := by
  have := zB0 r v hl hr r.length 0 0 (by omega)
  rwa [List.drop_zero, List.drop_zero] at this
theorem zBg (R : List (List Int)) (v : List Int) (hR : ∀ r ∈ R, r.length ≤ v.length ∧ r.length ≤ 1000000) (hl : R.length ≤ 1000000) : ∀ (d n : Nat), n + d = R.length → Ev (fun k => zc.l1 k v R (n : Int)) (Ji (R.drop n) v)
  | 0, n, hn => by
    refine qX (fun k => by rw [zc.l1, if_neg (by omega)]) ?_
    rw [List.drop_eq_nil_of_le (by omega)]; exact Ev.now _
  | d + 1, n, hn => by
    have hlt : n < R.length := by omega
    have ex : zW R (n : Int) = R[n] := by simp [zW, hlt]
    have h1 := hR R[n] (List.getElem_mem hlt)
    refine qX (fun k => by rw [zc.l1, if_pos (by omega), if_pos (by omega), ex, ZS (by omega)]) ?_
    refine Ev.bind (zD9 _ v h1.1 h1.2) ?_
    unfold Ji
    rw [yoy hlt, List.all_cons]
    by_cases hz : zDo R[n] v 0 = 0
    · rw [ygy hz, Bool.true_and]
      exact ql hz (zBg R v hR hl d (n + 1) (by omega))
    · rw [yhy hz, Bool.false_and]
      exact ZO hz (Ev.now _)
theorem zBE (t : Tri) (v : List Int) (hv : v.length ≤ 4398046511104) : Ev (fun k => zc.f k t v) (zAY t v) := by
  have hfalse : Ev (fun k => zc.j0 k v true t) false := qX (fun k => by rw [zc.j0, if_pos rfl]) (Ev.now false)
  refine Ev.bind (zAD t) ?_
  unfold zAY
  by_cases hc : JE t = 0
  · obtain ⟨ht, h6⟩ := Qi hc
    rw [if_pos hc]
    unfold Qn
    refine ql hc (Ev.bind (Qq (by unfold zn.f; rfl)) ?_)
    refine Ev.congr (fun k => by rw [qm (by omega) (by omega)]) (f := fun k => zc.j0 k v ((v.length : Int) != (7 * (t.length : Int))) t) ?_
    by_cases hl : (v.length : Int) = 7 * (t.length : Int)
    · rw [if_pos hl]
      have e : ((v.length : Int) != (7 * (t.length : Int))) = false := by simp [hl]
      rw [e]
      refine qX (fun k => by rw [zc.j0, if_neg (by simp)]) ?_
      have hrows : Ev (fun k => (ze.f k t).bind fun t106 => zc.l1 k v t106 0) (Ji (JZ t) v) := by
        refine Ev.bind (zCi ht) ?_
        have := zBg (JZ t) v (fun r hr => by have := zAx ht r hr; omega) (by have := zBf ht; omega) (JZ t).length 0 (by omega)
        rwa [List.drop_zero] at this
      have := zDx hv hrows v.length 0 (by omega)
      rwa [List.drop_zero] at this
    · rw [if_neg hl]
      have e : ((v.length : Int) != (7 * (t.length : Int))) = true := by simp [hl]
      rw [e]
      exact hfalse
  · rw [if_neg hc]
    exact ZO hc hfalse
theorem zCj (cols : Nat) (A r B : List Int) (k : Nat) (hA : A.length = k * cols) (hr : r.length = cols) : rowAt cols (A ++ (r ++ B)) k = r := by
  unfold rowAt
  have h3 : (k + 1) * cols = A.length + r.length := by rw [Nat.succ_mul]; omega
  rw [h3, ← hA, ← List.append_assoc, List.take_append_of_le_length (by simp), List.take_of_length_le (by simp), List.drop_append_of_le_length (yqy _), List.drop_length, List.nil_append]
theorem zBh (cols : Nat) (v : List Int) : ∀ (R : List (List Int)) (A : List Int) (k : Nat), A.length = k * cols → (∀ r ∈ R, r.length = cols) → Jh cols (A ++ R.flatten) v R.length k = Ji R v
  | [], _, _, _, _ => rfl
  | r :: R, A, k, hA, hR => by
    have hr := hR r (List.mem_cons_self ..)
    rw [List.length_cons, Jh, List.flatten_cons, zCj cols A r _ k hA hr]
    have ih := zBh cols v R (A ++ r) (k + 1) (by rw [List.length_append, hA, hr, Nat.succ_mul]) (fun x hx => hR x (List.mem_cons_of_mem _ hx))
    rw [List.append_assoc] at ih
    rw [ih]
    unfold Ji
    rw [List.all_cons]
    by_cases hz : zDo r v 0 = 0
    · rw [if_pos hz, ygy hz, Bool.true_and]
    · rw [if_neg hz, yhy hz, Bool.false_and]
theorem zB1 (cols : Nat) : ∀ (R : List (List Int)), (∀ r ∈ R, r.length = cols) → R.flatten.length = R.length * cols
  | [], _ => by simp
  | r :: R, h => by
    rw [List.flatten_cons, List.length_append, zB1 cols R (fun x hx => h x (List.mem_cons_of_mem _ hx)), h r (List.mem_cons_self ..), List.length_cons, Nat.succ_mul]; omega
theorem zBF {t : Tri} (h : QJ t = true) (v : List Int) (hv : (v.length : Int) = 7 * (t.length : Int)) : Za.f ((JZ t).length : Int) (7 * (t.length : Int)) (JZ t).flatten v = some (Ji (JZ t) v) := by
  have h8 := (Ze h).1
  have hs := zBf h
  have hf := zB1 (7 * t.length) (JZ t) (zAx h)
  have e7 : (7 * (t.length : Int)).toNat = 7 * t.length := by omega
  unfold Za.f
  rw [if_pos ?_, e7, yny]
  · have := zBh (7 * t.length) v (JZ t) [] 0 (by simp) (zAx h)
    rw [List.nil_append] at this
    rw [this]
  · refine ⟨by omega, by omega, by omega, by omega, ?_, by omega⟩
    rw [hf]; push_cast; rfl
theorem zEn (v : List Int) : zZ.f v = some (!(v.all inR)) := by
  unfold zZ.f zy.f
  rw [contO (p := fun y => !(inR y)) v (fun y _ => by
    show qJ.f y = _
    unfold qJ.f
    rw [zAJ]; rfl), List.not_all_eq_any_not]
theorem zCF {t : Tri} (h : QJ t = true) (v : List Int) : qW.f t v = some (Qn t v) := by
  have h8 := (Ze h).1
  unfold qW.f Qn
  rw [qm (by omega) (by omega)]
  by_cases hl : (v.length : Int) = 7 * (t.length : Int)
  · rw [if_pos hl, if_pos hl, zEn, yfy]
    cases ha : v.all inR with
    | false => rfl
    | true => rw [if_neg (by simp), zDw h, yfy, zBF h v hl, yfy, if_pos rfl]
  · rw [if_neg hl, if_neg hl]
def zEo : Nat → List Int → List Int
  | _, [] => []
  | i, x :: xs => if x = 0 then zEo (i + 1) xs else (i : Int) :: zEo (i + 1) xs
theorem zEp (l : List Int) (n : Nat) (h : n < l.length) : zEo n (l.drop n) = if l[n] = 0 then zEo (n + 1) (l.drop (n + 1)) else (n : Int) :: zEo (n + 1) (l.drop (n + 1)) := by
  rw [yoy h]; rfl
theorem zAM (l : List Int) (h : l.length ≤ 4398046511104) : Ev (fun k => qI.f k l) (zEo 0 l) := by
  refine Qp (fun k (s : List Int × Int) => qI.l0 k s.1 l (l.length : Int) s.2) (fun s => ∃ n : Nat, n ≤ l.length ∧ s.2 = n ∧ s.1.length ≤ n) (fun s => l.length - s.2.toNat) (fun s => s.1 ++ zEo s.2.toNat (l.drop s.2.toNat)) ?_ ([], 0) ⟨0, by omega, rfl, by simp⟩
  rintro ⟨a, i⟩ ⟨n, hn, rfl, ha⟩
  dsimp only at ha ⊢
  by_cases hlt : n < l.length
  · right
    rw [yny, zEp l n hlt]
    by_cases hx : l[n] = 0
    · refine ⟨(a, ((n + 1 : Nat) : Int)), ⟨n + 1, by omega, rfl, by dsimp only; omega⟩, by dsimp only; omega, by dsimp only; rw [yny, if_pos hx], fun k => ?_⟩
      simp only [qI.l0]
      rw [if_pos (by omega), if_pos (by omega), if_pos (by omega), zBC l n hlt, if_pos hx, ZS (by omega)]
    · refine ⟨(a ++ [(n : Int)], ((n + 1 : Nat) : Int)), ⟨n + 1, by omega, rfl, by simp; omega⟩, by dsimp only; omega, by dsimp only; rw [yny, if_neg hx]; simp, fun k => ?_⟩
      simp only [qI.l0]
      rw [if_pos (by omega), if_pos (by omega), if_pos (by omega), zBC l n hlt, if_neg hx, if_pos (by omega), ZS (by omega)]
  · obtain rfl : n = l.length := by omega
    refine .inl fun k => ?_
    simp only [qI.l0]
    rw [if_neg (by omega)]
    simp [zEo]
def nzc : List Int → Nat
  | [] => 0
  | x :: xs => if x = 0 then nzc xs else nzc xs + 1
theorem zFO (l : List Int) : ∀ i, (zEo i l).length = nzc l := by
  induction l with
  | nil => intro i; rfl
  | cons x xs ih => intro i; unfold zEo nzc; split <;> simp [ih]
def zEw (v : List Int) (i : Nat) : Bool := decide (nzc (Zz 7 4 3 v i) ≤ 1)
def zFv (v : List Int) : Nat → Nat → Bool
  | 0, _ => true
  | d + 1, n => zEw v n && zFv v d (n + 1)
def zFP (v : List Int) : Bool := zFv v (v.length / 7) 0
def zFw (v : List Int) : Nat → Bool
  | 0 => true
  | n + 1 => zFw v n && zEw v n
theorem zCG (v : List Int) : ∀ d n, zFv v d n = true ↔ ∀ i, n ≤ i → i < n + d → zEw v i = true
  | 0, n => by simp [zFv]; intro i h1 h2; omega
  | d + 1, n => by
    rw [zFv, Bool.and_eq_true, zCG v d (n + 1)]
    constructor
    · rintro ⟨h0, h1⟩ i hi hd
      rcases Nat.eq_or_lt_of_le hi with rfl | h
      · exact h0
      · exact h1 i h (by omega)
    · intro h
      exact ⟨h n (yqy _) (by omega), fun i hi hd => h i (by omega) (by omega)⟩
theorem zDW (v : List Int) : ∀ n, zFw v n = true ↔ ∀ i, i < n → zEw v i = true
  | 0 => by simp [zFw]
  | n + 1 => by
    rw [zFw, Bool.and_eq_true, zDW v n]
    constructor
    · rintro ⟨h0, h1⟩ i hi
      rcases Nat.lt_succ_iff_lt_or_eq.1 hi with h | rfl
      · exact h0 i h
      · exact h1
    · intro h
      exact ⟨fun i hi => h i (by omega), h n (by omega)⟩
theorem zFx (v : List Int) (n : Nat) : zFw v n = zFv v n 0 := by
  rw [Bool.eq_iff_iff, zDW, zCG]
  constructor
  · intro h i _ hi; exact h i (by omega)
  · intro h i hi; exact h i (by omega) (by omega)
theorem Qr {v : List Int} {n : Nat} (h : n * 7 + 7 ≤ v.length) : Zz 7 4 3 v n = [v[n * 7 + 4], v[n * 7 + 5], v[n * 7 + 6]] := by
  unfold Zz
  rw [yoy (by omega), List.take_succ_cons, yoy (by omega), List.take_succ_cons, yoy (by omega), List.take_succ_cons, List.take_zero]
theorem zEq (v : List Int) : ∀ n, n * 7 ≤ v.length → Ev (fun k => zDP (fun i => zFs (qI.f k) 7 4 3 v i) n) (zFw v n)
  | 0, _ => Ev.now true
  | n + 1, h => by
    refine Ev.bind (zEq v n (by omega)) ?_
    have h3 : (Zz 7 4 3 v n).length = 3 := by rw [Qr (by omega)]; rfl
    have hs := zAM (Zz 7 4 3 v n) (by omega)
    obtain ⟨K, hK⟩ := hs
    refine ⟨K, fun k hk => ?_⟩
    have h9 : qI.f k (Zz 7 4 3 v n) = some (zEo 0 (Zz 7 4 3 v n)) := hK k hk
    dsimp only
    unfold zFs
    rw [h9]
    simp [zFw, zEw, zFO]
theorem zCk (v : List Int) (h7 : v.length % 7 = 0) (hl : v.length ≤ 7000000000) : Ev (fun k => qp.f k v) (zFP v) := by
  refine Ev.congr (fun k => by unfold qp.f; rw [if_pos ⟨h7, hl⟩]) ?_
  unfold zFP
  rw [← zFx]
  exact zEq v _ (by omega)
def nz1 (x : Int) : Int := if x = 0 then 0 else 1
theorem zFy (x : Int) : 0 ≤ nz1 x ∧ nz1 x ≤ 1 := by unfold nz1; split <;> omega
theorem JP (v : List Int) (n q : Nat) (hq4 : 4 ≤ q) (hq : q ≤ 6) (h : n * 7 + 7 ≤ v.length) (hb : v.length ≤ 7000000000) (hp : ∀ x ∈ v, 0 ≤ x) (c : Int) (hc0 : 0 ≤ c) (hc : c ≤ 10) {R : Bool} (hlt : n * 7 + q < v.length)
    (hR : Ev (fun k => qH.l1 k v ((n * 7 : Nat) : Int) (c + nz1 v[n * 7 + q]) ((q + 1 : Nat) : Int)) R) : Ev (fun k => qH.l1 k v ((n * 7 : Nat) : Int) c (q : Int)) R := by
  have e1 : wrap64 (((n * 7 : Nat) : Int) + (q : Int)) = ((n * 7 + q : Nat) : Int) := by rw [qm (by omega) (by omega)]; omega
  have e2 : wrap64 ((q : Int) + 1) = ((q + 1 : Nat) : Int) := ZS (by omega)
  have hv := hp v[n * 7 + q] (List.getElem_mem hlt)
  refine qX (fun k => by rw [qH.l1, if_pos (by omega), e1, if_pos (by omega), if_pos (by omega), zBC v _ hlt, e2]) ?_
  by_cases hz : v[n * 7 + q] > 0
  · refine ql hz ?_
    have e3 : wrap64 (c + 1) = c + nz1 v[n * 7 + q] := by rw [qm (by omega) (by omega)]; unfold nz1; rw [if_neg (by omega)]
    rw [e3]; exact hR
  · refine ZO hz ?_
    have e3 : c = c + nz1 v[n * 7 + q] := by unfold nz1; rw [if_pos (by omega)]; omega
    rw [e3]; exact hR
theorem zDA (v : List Int) (n : Nat) (h : n * 7 + 7 ≤ v.length) (hb : v.length ≤ 7000000000) (hp : ∀ x ∈ v, 0 ≤ x) {R : Bool} (hR : Ev (fun k => qH.l0 k v (((n + 1) * 7 : Nat) : Int)) R) : Ev (fun k => qH.l1 k v ((n * 7 : Nat) : Int) 0 4) (zEw v n && R) := by
  have b4 := zFy (v[n * 7 + 4])
  have b5 := zFy (v[n * 7 + 5])
  have b6 := zFy (v[n * 7 + 6])
  refine JP v n 4 (by omega) (by omega) h hb hp 0 (by omega) (by omega) (by omega) ?_
  refine JP v n 5 (by omega) (by omega) h hb hp _ (by omega) (by omega) (by omega) ?_
  refine JP v n 6 (by omega) (by omega) h hb hp _ (by omega) (by omega) (by omega) ?_
  have e1 : wrap64 (((n * 7 : Nat) : Int) + 7) = (((n + 1) * 7 : Nat) : Int) := by rw [qm (by omega) (by omega)]; omega
  refine qX (fun k => by rw [qH.l1, if_neg (by omega), e1]) ?_
  have hn : (0 + nz1 v[n * 7 + 4] + nz1 v[n * 7 + 5] + nz1 v[n * 7 + 6] : Int) = (nzc (Zz 7 4 3 v n) : Int) := by
    rw [Qr h]
    unfold nzc nzc nzc nzc nz1
    repeat' split
    all_goals simp
  rw [hn]
  unfold zEw
  by_cases hz : nzc (Zz 7 4 3 v n) ≤ 1
  · rw [ygy hz, Bool.true_and]
    exact ZO (by omega) hR
  · rw [yhy hz, Bool.false_and]
    exact ql (by omega) (Ev.now _)
theorem zB2 (v : List Int) (hb : v.length ≤ 7000000000) (hp : ∀ x ∈ v, 0 ≤ x) (N : Nat) (hN : v.length = N * 7) : ∀ d n, n + d = N → Ev (fun k => qH.l0 k v ((n * 7 : Nat) : Int)) (zFv v d n)
  | 0, n, hn => by
    have e1 : wrap64 (((n * 7 : Nat) : Int) + 7) = ((n * 7 + 7 : Nat) : Int) := by rw [qm (by omega) (by omega)]; omega
    refine qX (fun k => by rw [qH.l0, e1, if_neg (by omega)]) ?_
    exact Ev.now _
  | d + 1, n, hn => by
    have e1 : wrap64 (((n * 7 : Nat) : Int) + 7) = ((n * 7 + 7 : Nat) : Int) := by rw [qm (by omega) (by omega)]; omega
    refine qX (fun k => by rw [qH.l0, e1, if_pos (by omega)]) ?_
    exact zDA v n (by omega) hb hp (zB2 v hb hp N hN d (n + 1) (by omega))
theorem zCl (v : List Int) (h7 : v.length % 7 = 0) (hl : v.length ≤ 7000000000) (hp : ∀ x ∈ v, 0 ≤ x) : Ev (fun k => qH.f k v) (zFP v) := by
  have := zB2 v hl hp (v.length / 7) (by omega) (v.length / 7) 0 (by omega)
  unfold zFP
  exact this
theorem JF {t : Tri} {v : List Int} (h : Qn t v = true) : (v.length : Int) = 7 * (t.length : Int) ∧ (∀ x ∈ v, 0 ≤ x ∧ x ≤ 1000) ∧ Ji (JZ t) v = true := by
  unfold Qn at h
  by_cases hl : (v.length : Int) = 7 * (t.length : Int)
  · rw [if_pos hl] at h
    by_cases ha : v.all inR = true
    · rw [if_pos ha] at h
      refine ⟨hl, fun x hx => ?_, h⟩
      have := List.all_eq_true.1 ha x hx
      unfold inR at this
      simp at this
      exact this
    · rw [if_neg ha] at h; cases h
  · rw [if_neg hl] at h; cases h
def zEx (t : Tri) (v : List Int) : Bool := if Qn t v = true then zFP v else false
def adm (t : Tri) (v : List Int) : Bool := if zAY t v = true then zFP v else false
theorem zB3 {t : Tri} (h : JE t = 0) (v : List Int) : zAY t v = Qn t v := by unfold zAY; rw [if_pos h]
theorem adm_eq {t : Tri} (h : JE t = 0) (v : List Int) : adm t v = zEx t v := by unfold adm zEx; rw [zB3 h]
theorem zDB {t : Tri} {v : List Int} (h : zAY t v = true) : JE t = 0 := by
  unfold zAY at h
  by_cases hc : JE t = 0
  · exact hc
  · rw [if_neg hc] at h; cases h
theorem zAZ {t : Tri} (hc : JE t = 0) (v : List Int) : Ev (fun k => qN.f k t v) (zEx t v) := by
  obtain ⟨ht, h6⟩ := Qi hc
  refine Ev.bind (Qq (zCF ht v)) ?_
  unfold zEx
  by_cases hn : Qn t v = true
  · obtain ⟨hl, hr, _⟩ := JF hn
    refine ql hn (Ev.bind (zCk v (by omega) (by omega)) ?_)
    rw [if_pos hn]; exact Ev.now _
  · rw [if_neg hn]; exact ZO hn (Ev.now _)
theorem zDC (t : Tri) (v : List Int) (hv : v.length ≤ 4398046511104) : Ev (fun k => ZG.f k t v) (adm t v) := by
  refine Ev.bind (zBE t v hv) ?_
  unfold adm
  by_cases hn : zAY t v = true
  · have hc := zDB hn
    obtain ⟨ht, h6⟩ := Qi hc
    rw [zB3 hc] at hn
    obtain ⟨hl, hr, _⟩ := JF hn
    rw [zB3 hc]
    refine ql hn (Ev.bind (zCl v (by omega) (by omega) (fun x hx => (hr x hx).1)) ?_)
    rw [if_pos hn]; exact Ev.now _
  · rw [if_neg hn]; exact ZO hn (Ev.now _)
theorem zEr (v : List Int) {N : Nat} : ∀ k, k ≤ N → zE1 v (zEY N k) = (List.range k).map (qcI v)
  | 0, _ => rfl
  | k + 1, h => by
    rw [zAw (show k < N by omega), zCd, zEr v k (by omega), List.range_succ, List.map_append]
    rfl
def qcV (v : List Int) : List Int := (List.range (v.length / 7)).map (qcI v)
theorem zFQ (v : List Int) (h7 : v.length % 7 = 0) (hl : v.length ≤ 7000000000) : qx.f v = some (qcV v) := by
  unfold qx.f
  rw [if_pos ⟨h7, hl⟩, ← zDR, zEr v _ (yqy _)]
  rfl
def qcS (a b c : Int) : Int := if c > 0 then 2 else if b > 0 then 1 else if a > 0 then 0 else -1
theorem qc3 {a b c : Int} (a0 : 0 ≤ a) (b0 : 0 ≤ b) (c0 : 0 ≤ c) (h : nzc [a, b, c] ≤ 1) : qk (fun x => x != 0) 0 [a, b, c] = qcS a b c := by
  unfold qcS
  by_cases ha : a = 0
  · subst ha
    by_cases hb : b = 0
    · subst hb
      by_cases hc : c = 0
      · subst hc; rfl
      · rw [if_pos (show c > 0 by omega), qk, if_neg (by decide), qk, if_neg (by decide), qk, if_pos (by simpa using hc)]; rfl
    · by_cases hc : c = 0
      · subst hc
        rw [if_neg (by decide), if_pos (show b > 0 by omega), qk, if_neg (by decide), qk, if_pos (by simpa using hb)]; rfl
      · exfalso
        rw [nzc, if_pos rfl, nzc, if_neg hb, nzc, if_neg hc, nzc] at h
        omega
  · by_cases hb : b = 0
    · subst hb
      by_cases hc : c = 0
      · subst hc
        rw [if_neg (by decide), if_neg (by decide), if_pos (show a > 0 by omega), qk, if_pos (by simpa using ha)]; rfl
      · exfalso
        rw [nzc, if_neg ha, nzc, if_pos rfl, nzc, if_neg hc, nzc] at h
        omega
    · exfalso
      rw [nzc, if_neg ha, nzc, if_neg hb] at h
      omega
theorem qcI_eq {v : List Int} {n : Nat} (h : n * 7 + 7 ≤ v.length) (hp : ∀ x ∈ v, 0 ≤ x) (h1 : zEw v n = true) : qcI v n = qcS v[n * 7 + 4] v[n * 7 + 5] v[n * 7 + 6] := by
  unfold zEw at h1
  rw [decide_eq_true_eq, Qr h] at h1
  unfold qcI
  rw [Qr h]
  exact qc3 (hp _ (List.getElem_mem _)) (hp _ (List.getElem_mem _)) (hp _ (List.getElem_mem _)) h1
section
variable {t : Tri} {v : List Int}
theorem zDy {n : Nat} (hn : n < t.length) (hv : v.length = t.length * 7) (hb : v.length ≤ 7000000000) {acc : List Int} (ha : acc.length = n) {r : List Int × Int}
    (hr : Ev (fun k => zX.l0 k v (acc ++ [qcS (rd v ((n * 7 + 4 : Nat) : Int)) (rd v ((n * 7 + 5 : Nat) : Int)) (rd v ((n * 7 + 6 : Nat) : Int))]) ((n + 1 : Nat) : Int) t) r) : Ev (fun k => zX.l1 k v (acc ++ [-1]) (n : Int) 0 t) r := by
  have hset : ∀ x y : Int, (acc ++ [x]).set (n : Int).toNat y = acc ++ [y] := fun x y => by
    rw [yny, List.set_append_right _ _ (by omega), ha, Nat.sub_self]; rfl
  have hlen : ∀ x : Int, ((n : Int) < ((acc ++ [x]).length : Int)) := fun x => by rw [List.length_append, ha, List.length_singleton]; omega
  have g0 : (0 : Int) ≤ ((n * 7 + 4 : Nat) : Int) := by omega
  have g1 : (0 : Int) ≤ ((n * 7 + 5 : Nat) : Int) := by omega
  have g2 : (0 : Int) ≤ ((n * 7 + 6 : Nat) : Int) := by omega
  have l0 : ((n * 7 + 4 : Nat) : Int) < (v.length : Int) := by omega
  have l1 : ((n * 7 + 5 : Nat) : Int) < (v.length : Int) := by omega
  have l2 : ((n * 7 + 6 : Nat) : Int) < (v.length : Int) := by omega
  have n0 : (0 : Int) ≤ (n : Int) := by omega
  have c0 : (0 : Int) < 3 := by decide
  have c1 : (1 : Int) < 3 := by decide
  have c2 : (2 : Int) < 3 := by decide
  have c3 : ¬ (3 : Int) < 3 := by decide
  have key : ∀ q : Nat, q < 3 → wrap64 (wrap64 (wrap64 (7 * (n : Int)) + 4) + (q : Int)) = ((n * 7 + 4 + q : Nat) : Int) := fun q hq => by
    rw [qm (x := 7 * (n : Int)) (by omega) (by omega), qm (x := 7 * (n : Int) + 4) (by omega) (by omega), qm (x := 7 * (n : Int) + 4 + (q : Int)) (by omega) (by omega)]
    omega
  have e0 : wrap64 (wrap64 (wrap64 (7 * (n : Int)) + 4) + 0) = ((n * 7 + 4 : Nat) : Int) := key 0 (by omega)
  have e1 : wrap64 (wrap64 (wrap64 (7 * (n : Int)) + 4) + 1) = ((n * 7 + 5 : Nat) : Int) := key 1 (by omega)
  have e2 : wrap64 (wrap64 (wrap64 (7 * (n : Int)) + 4) + 2) = ((n * 7 + 6 : Nat) : Int) := key 2 (by omega)
  have w1 : wrap64 ((0 : Int) + 1) = 1 := qm (x := 0 + 1) (by omega) (by omega)
  have w2 : wrap64 ((1 : Int) + 1) = 2 := qm (x := 1 + 1) (by omega) (by omega)
  have w3 : wrap64 ((2 : Int) + 1) = 3 := qm (x := 2 + 1) (by omega) (by omega)
  have wn : wrap64 ((n : Int) + 1) = ((n + 1 : Nat) : Int) := ZS (by omega)
  generalize hA : rd v ((n * 7 + 4 : Nat) : Int) = A at hr
  generalize hB : rd v ((n * 7 + 5 : Nat) : Int) = B at hr
  generalize hC : rd v ((n * 7 + 6 : Nat) : Int) = C at hr
  have f3 : ∀ x : Int, (if C > 0 then (2 : Int) else x) = qcS A B C → Ev (fun k => zX.l1 k v (acc ++ [x]) (n : Int) 2 t) r := fun x hx => by
    by_cases h : C > 0
    · rw [if_pos h] at hx
      refine qX (fun k => by rw [zX.l1, if_pos c2, e2, if_pos g2, if_pos l2, hC, if_pos h, if_pos n0, if_pos (hlen x), hset, w3]) ?_
      refine qX (fun k => by rw [zX.l1, if_neg c3, wn]) ?_
      rw [hx]; exact hr
    · rw [if_neg h] at hx
      refine qX (fun k => by rw [zX.l1, if_pos c2, e2, if_pos g2, if_pos l2, hC, if_neg h, w3]) ?_
      refine qX (fun k => by rw [zX.l1, if_neg c3, wn]) ?_
      rw [hx]; exact hr
  have f2 : ∀ x : Int, (if C > 0 then (2 : Int) else if B > 0 then 1 else x) = qcS A B C → Ev (fun k => zX.l1 k v (acc ++ [x]) (n : Int) 1 t) r := fun x hx => by
    by_cases h : B > 0
    · rw [if_pos h] at hx
      exact qX (fun k => by rw [zX.l1, if_pos c1, e1, if_pos g1, if_pos l1, hB, if_pos h, if_pos n0, if_pos (hlen x), hset, w2]) (f3 1 hx)
    · rw [if_neg h] at hx
      exact qX (fun k => by rw [zX.l1, if_pos c1, e1, if_pos g1, if_pos l1, hB, if_neg h, w2]) (f3 x hx)
  by_cases h : A > 0
  · exact qX (fun k => by rw [zX.l1, if_pos c0, e0, if_pos g0, if_pos l0, hA, if_pos h, if_pos n0, if_pos (hlen (-1)), hset, w1]) (f2 0 (by unfold qcS; rw [if_pos h]))
  · exact qX (fun k => by rw [zX.l1, if_pos c0, e0, if_pos g0, if_pos l0, hA, if_neg h, w1]) (f2 (-1) (by unfold qcS; rw [if_neg h]))
theorem zBi (hv : v.length = t.length * 7) (hb : v.length ≤ 7000000000) (hp : ∀ x ∈ v, 0 ≤ x) (h1 : zFP v = true) : ∀ d n : Nat, n + d = t.length → Ev (fun k => zX.l0 k v ((List.range n).map (qcI v)) (n : Int) t) ((List.range t.length).map (qcI v), 0)
  | 0, n, hn => by
    obtain rfl : n = t.length := by omega
    refine qX (f := fun k => some ((List.range t.length).map (qcI v), 0)) (fun k => ?_) (Ev.now _)
    rw [zX.l0]
    unfold zn.f
    rw [yfy, if_neg (by omega)]
  | d + 1, n, hn => by
    have ih := zBi hv hb hp h1 d (n + 1) (by omega)
    have hC : zEw v n = true := by
      unfold zFP at h1
      exact (zCG v _ 0).1 h1 n (Nat.zero_le _) (by omega)
    refine qX (f := fun k => zX.l1 k v ((List.range n).map (qcI v) ++ [-1]) (n : Int) 0 t) (fun k => ?_) ?_
    · rw [zX.l0]
      unfold zn.f
      rw [yfy, if_pos (by omega), if_pos (by rw [List.length_map, List.length_range]; omega)]
    · refine zDy (by omega) hv hb (by rw [List.length_map, List.length_range]) ?_
      rw [zBC v _ (show n * 7 + 4 < v.length by omega), zBC v _ (show n * 7 + 5 < v.length by omega), zBC v _ (show n * 7 + 6 < v.length by omega), ← qcI_eq (by omega) hp hC]
      rw [List.range_succ, List.map_append] at ih
      exact ih
end
def zDD (t : Tri) (v : List Int) : List Int × Int := if JE t = 0 then (if zEx t v = true then (qcV v, 0) else ([], 5)) else ([], JE t)
theorem zB4 {t : Tri} {v : List Int} (h : zEx t v = true) : Qn t v = true ∧ zFP v = true := by
  unfold zEx at h
  by_cases hn : Qn t v = true
  · rw [if_pos hn] at h; exact ⟨hn, h⟩
  · rw [if_neg hn] at h; cases h
theorem zCH (t : Tri) (v : List Int) (hv : v.length ≤ 4398046511104) : Ev (fun k => zX.f k t v) (zDD t v) := by
  refine Ev.bind (zAD t) ?_
  unfold zDD
  by_cases hc : JE t = 0
  case neg => rw [if_neg hc]; exact ZO hc (Ev.now _)
  rw [if_pos hc]
  obtain ⟨ht, h6⟩ := Qi hc
  refine ql hc (Ev.bind (zDC t v hv) ?_)
  rw [adm_eq hc]
  by_cases hn : zEx t v = true
  · obtain ⟨h0, h1⟩ := zB4 hn
    obtain ⟨hl, hp, _⟩ := JF h0
    rw [if_pos hn]
    refine ql hn ?_
    have := zBi (t := t) (v := v) (by omega) (by omega) (fun x hx => (hp x hx).1) h1 t.length 0 (by omega)
    unfold qcV
    rw [show v.length / 7 = t.length by omega]
    exact this
  · rw [if_neg hn]; exact ZO hn (Ev.now _)
theorem zCI {t : Tri} (hs : Small t) (v : List Int) : Ev (fun k => Zb.f k t v) (zDD t v) := by
  unfold zDD
  by_cases hc : JE t = 0
  case neg =>
    refine Ev.bind (a := JE t) (Ev.bind (JO hs) (ZO hc (Ev.now _))) ?_
    exact ZO hc (Jt (if_neg hc).symm)
  rw [if_pos hc]
  obtain ⟨ht, h6⟩ := Qi hc
  by_cases hn : zEx t v = true
  · obtain ⟨h0, h1⟩ := zB4 hn
    obtain ⟨hl, hp, _⟩ := JF h0
    refine Ev.bind (a := JE t) (Ev.bind (JO hs) (ql hc (Ev.bind (zAZ hc v) (ql hn (Ev.now _))))) ?_
    rw [if_pos hn]
    exact ql hc (Ev.bind (Qq (zFQ v (by omega) (by omega))) (Ev.now _))
  · refine Ev.bind (a := 5) (Ev.bind (JO hs) (ql hc (Ev.bind (zAZ hc v) (ZO hn (Ev.now _))))) ?_
    rw [if_neg hn]
    exact ZO (by decide) (Ev.now _)
theorem zDE (t : Tri) (v : List Int) : (zDD t v).1.length ≤ 42 := by
  unfold zDD
  by_cases hc : JE t = 0
  case neg => rw [if_neg hc]; exact Nat.zero_le _
  rw [if_pos hc]
  obtain ⟨ht, h6⟩ := Qi hc
  by_cases hn : zEx t v = true
  · obtain ⟨h0, h1⟩ := zB4 hn
    obtain ⟨hl, _, _⟩ := JF h0
    rw [if_pos hn]
    show (qcV v).length ≤ 42
    unfold qcV
    rw [List.length_map, List.length_range]; omega
  · rw [if_neg hn]; exact Nat.zero_le _
def mkR (a : Int) : Nat → List zq
  | 0 => []
  | n + 1 => ⟨a, a + 1⟩ :: mkR (a + 2) n
theorem zAN (a : Int) (n : Nat) : (mkR a n).length = n := by
  induction n generalizing a with
  | zero => rfl
  | succ n ih => simp [mkR, ih]
theorem zFR (a : Int) (n : Nat) : mkR a (n + 1) = mkR a n ++ [⟨a + 2 * n, a + 2 * n + 1⟩] := by
  induction n generalizing a with
  | zero => simp [mkR]
  | succ n ih =>
    rw [mkR, ih (a + 2)]
    have e : a + 2 + 2 * (n : Int) = a + 2 * ((n + 1 : Nat) : Int) := by omega
    rw [e]; rfl
theorem mk_set (l : List zq) (a : Int) (n : Nat) (h : n < l.length) : (mkR a n ++ l.drop n).set n ⟨a + 2 * n, a + 2 * n + 1⟩ = mkR a (n + 1) ++ l.drop (n + 1) := by
  rw [List.set_append_right _ _ (by rw [zAN]; exact yqy _), zAN, Nat.sub_self, yoy h, yby, zFR, List.append_assoc]
  rfl
theorem zDF (l : List zq) (n : Nat) (v : zq) (h : n < l.length) : zG (l.set n v) (n : Int) = v := by
  rw [zAK _ n (by rw [List.length_set]; exact h), List.getElem_set_self]
theorem zCm (l : List zq) (a : Int) (h : l.length ≤ 1099511627776) (h0 : 0 ≤ a) (h1 : a ≤ 9007199254740992) : Ev (fun k => qY.f k l a) (a + 2 * l.length, mkR a l.length) := by
  have hl : Ev (fun k => qY.l0 k l a 0) (a + 2 * l.length, mkR a l.length) := by
    refine Qp (fun k (s : List zq × Int × Int) => qY.l0 k s.1 s.2.1 s.2.2) (fun s => ∃ n : Nat, n ≤ l.length ∧ s.2.2 = n ∧ s.2.1 = a + 2 * n ∧ s.1 = mkR a n ++ l.drop n) (fun s => l.length - s.2.2.toNat) (fun _ => (a + 2 * l.length, mkR a l.length)) ?_ (l, a, 0) ⟨0, by omega, rfl, by simp, by simp [mkR]⟩
    rintro ⟨x, b, i⟩ ⟨n, hn, rfl, rfl, rfl⟩
    dsimp only
    have hlen : (mkR a n ++ l.drop n).length = l.length := by simp [zAN]; omega
    by_cases hlt : n < l.length
    · refine .inr ⟨(mkR a (n + 1) ++ l.drop (n + 1), a + 2 * ((n + 1 : Nat) : Int), ((n + 1 : Nat) : Int)), ⟨n + 1, by omega, rfl, rfl, rfl⟩, by simp; omega, rfl, fun k => ?_⟩
      simp only [qY.l0]
      rw [if_pos (by rw [hlen]; omega), if_pos (by omega), yfy, yny, zDF _ n _ (by rw [hlen]; exact hlt), List.set_set, qm (x := a + 2 * (n : Int) + 1) (by omega) (by omega), mk_set l a n hlt, ZS (by omega), qm (by omega) (by omega)]
      congr 1; omega
    · obtain rfl : n = l.length := by omega
      refine .inl fun k => ?_
      simp only [qY.l0]
      rw [if_neg (by rw [hlen]; omega)]
      simp
  exact hl
def zE2 : Tri → Nat
  | [] => 0
  | r :: rs => 2 * r.length + zE2 rs
def mkT (a : Int) : Tri → Tri
  | [] => []
  | r :: rs => mkR a r.length :: mkT (a + 2 * r.length) rs
theorem zEs (t : Tri) (h : ∀ r ∈ t, r.length ≤ 1048576) : zE2 t ≤ 2097152 * t.length := by
  induction t with
  | nil => simp [zE2]
  | cons r rs ih =>
    have h1 := h r (List.mem_cons_self ..)
    have h2 := ih (fun x hx => h x (List.mem_cons_of_mem _ hx))
    simp only [zE2, List.length_cons]; omega
theorem zCn : ∀ (suf : Tri) (pre : Tri) (a : Int), (∀ r ∈ suf, r.length ≤ 1048576) → 0 ≤ a → a + zE2 suf ≤ 9007199254740992 → Ev (fun k => qq.go k suf.length (pre ++ suf) a pre.length) (a + zE2 suf, pre ++ mkT a suf)
  | [], pre, a, _, h0, h1 => zCe fun k => by simp [qq.go, zE2, mkT]
  | r :: rs, pre, a, hr, h0, h1 => by
    simp only [zE2] at h1
    have hm := zCm r a (by have := hr r (List.mem_cons_self ..); omega) h0 (by omega)
    have ih := zCn rs (pre ++ [mkR a r.length]) (a + 2 * r.length) (fun x hx => hr x (List.mem_cons_of_mem _ hx)) (by omega) (by omega)
    simp only [List.length_cons, qq.go]
    have e0 : List.getD (pre ++ r :: rs) pre.length [] = r := by simp
    rw [e0]
    refine Ev.bind hm ?_
    dsimp only
    have e1 : (pre ++ r :: rs).set pre.length (mkR a r.length) = pre ++ [mkR a r.length] ++ rs := by
      rw [List.set_append_right _ _ (yqy _), Nat.sub_self, yby]; simp
    rw [e1]
    have e2 : pre.length + 1 = (pre ++ [mkR a r.length]).length := by simp
    rw [e2]
    have e3 : (a + ((zE2 (r :: rs) : Nat) : Int), pre ++ mkT a (r :: rs)) = (a + 2 * r.length + (zE2 rs : Int), pre ++ [mkR a r.length] ++ mkT (a + 2 * r.length) rs) := by
      simp only [zE2, mkT, List.append_assoc, List.singleton_append]; congr 1; omega
    rw [e3]
    exact ih
theorem Jn (t : Tri) (a : Int) (hs : Small t) (h0 : 0 ≤ a) (h1 : a ≤ 1048576) : Ev (fun k => ZQ.f k t a) (a + zE2 t, mkT a t) := by
  have := zCn t [] a hs.2 h0 (by have := zEs t hs.2; have := hs.1; omega)
  rw [List.nil_append, List.nil_append] at this
  exact this
end Go.Proofs.Ytdgdnnjigigkcaa.P
namespace Go.Proofs.Ytdgdnnjigigkcaa.Pure
open Go.RowKit Go.Proofs.Ytdgdnnjigigkcaa.P Go.Proofs.Ytdgdnnjigigkcaa.Lib Go.Proofs.YtdgdnnjigigkcaaW.PrintWords
theorem zAO (l : List (List qQ)) (x : List Int) (h : Fits l) (hx : x.length ≤ 9223372036854775807) : ∃ k, ZR.f k l x = some true := by
  refine Ev.rounds ?_
  by_cases hx1 : (x.length : Int) > 1048576
  · exact ql hx1 (Ev.now true)
  refine ZO hx1 ?_
  obtain ⟨r, hr, hs⟩ := zA9 l h
  refine Ev.bind hr ?_
  by_cases hn : r < 0
  · exact ql hn (Ev.now true)
  have hsm := hs hn
  have hto := zAA l hsm
  have htx := zD7 x (by omega)
  have hS := zEg hsm
  have hcnt := zEs (cvT l) hS.2
  have hc1 := hS.1
  have ho := zDE (cvT l) x
  have hsp := zCH (cvT l) x (by omega)
  have him := zCI hS x
  generalize zDD (cvT l) x = o at *
  have heq := zAz o.1 (by omega)
  have hh := zCE 1 o.1.length (by omega) (by omega) (by omega)
  have hex := zAz x (by omega)
  refine ZO hn ?_
  refine Ev.bind hto ?_
  refine Ev.bind htx ?_
  refine Ev.bind hsp ?_
  refine Ev.bind hto ?_
  refine Ev.bind htx ?_
  refine Ev.bind him ?_
  refine Ev.bind heq (ql rfl (ql rfl ?_))
  refine Ev.bind hto ?_
  refine Ev.bind (zAB _ hS) (ql rfl ?_)
  refine Ev.bind htx ?_
  refine Ev.bind hex (ql rfl ?_)
  refine Ev.bind (Jn _ 1 hS (by omega) (by omega)) ?_
  refine Ev.bind (zAE x _ (by omega) (by dsimp only; omega) (by dsimp only; omega)) ?_
  refine ZO (by dsimp only; omega) ?_
  refine Ev.bind heq (ql rfl (ql rfl ?_))
  refine Ev.bind (zAE _ 1 (by omega) (by omega) (by omega)) ?_
  refine Ev.bind hh ?_
  refine ZO (by omega) (ql rfl ?_)
  refine Ev.bind hto ?_
  refine Ev.bind htx ?_
  refine Ev.bind him ?_
  refine Ev.bind heq (ql rfl (ql rfl ?_))
  refine Ev.bind hh ?_
  exact ZO (by omega) (ql rfl (Ev.now true))
end Go.Proofs.Ytdgdnnjigigkcaa.Pure
namespace Go.Proofs.Ytdgdnnjigigkcaa.Lib
open Go.RowKit Go.Proofs.YtdgdnnjigigkcaaW.PrintWords Go.Joins Go.Deep Go.WideShapes Go.ChangeShapes
set_option linter.unusedVariables false
def zDz (P : Program) (t : TypeId) {α : Type} (d : Kd α) : Prop := ∀ (H : Type) (enc : TypeId × Value → H) (w : World) (base : Nat) (spare : Nat → Bool) (held : Bool) (fuel : Nat) (cs : List Value) (x : DataW H × List MemPlace),
  DataW.trod enc P w base spare held fuel t cs = some x → ∃ y, d.K w y cs
theorem zEt {P : Program} {t : TypeId} {k : IntKind} (ht : P.underlying t = some (.int k)) : zDz P t (Kd.int k) := by
  intro H enc w base spare held fuel cs x h
  obtain ⟨n, rfl, _, _⟩ := DataW.trod_int ht h
  exact ⟨n, rfl⟩
theorem zCo {α : Type} {R : Nat → α → Prop} : ∀ n, (∀ i, i < n → ∃ y, R i y) → ∃ ys : List α, ys.length = n ∧ ∀ j p, ys[j]? = some p → R j p
  | 0, _ => ⟨[], rfl, fun j p h => by simp at h⟩
  | n + 1, h => by
    obtain ⟨ys, hl, hr⟩ := zCo n (fun i hi => h i (by omega))
    obtain ⟨y, hy⟩ := h n (by omega)
    refine ⟨ys ++ [y], by simp [hl], fun j p hj => ?_⟩
    by_cases hlt : j < n
    · rw [List.getElem?_append_left (by omega)] at hj
      exact hr j p hj
    · have hjn : j < (ys ++ [y]).length := (List.getElem?_eq_some_iff.1 hj).1
      have : j = n := by simp [hl] at hjn; omega
      subst this
      rw [List.getElem?_append_right (by omega), hl, Nat.sub_self] at hj
      injection hj with hj
      rw [← hj]
      exact hy
theorem Jw {P : Program} {t e : TypeId} {α : Type} {d : Kd α} (ht : P.underlying t = some (.slice e)) (hc : P.cellsOf e = d.sz) (h : zDz P e d) : zDz P t (Kd.slice e d) := by
  intro H enc w base spare held fuel cs x hx
  rcases open_slice ht hx with ⟨rfl, _⟩ | ⟨a, len, cap, m, n, D, Pl, rfl, hb, hl, hm, hmm, _, hi⟩
  · exact ⟨[], none, 0, rfl, yqy _, Kd.C_nil d w⟩
  · have each : ∀ i, i < len → ∃ y, ∃ cs', w.cells? base (a.add (i * d.sz)) d.sz = some cs' ∧ d.K w y cs' := by
      intro i hil
      have him : i < m := by rw [hmm]; split <;> omega
      obtain ⟨cs', h1, h2⟩ := hi i him
      obtain ⟨y, hy⟩ := h H enc w base spare held n cs' _ h2
      rw [hc] at h1
      exact ⟨y, cs', h1, hy⟩
    obtain ⟨ys, hlen, hys⟩ := zCo len each
    refine ⟨ys, some a, cap, by rw [hlen], by omega, rfl, ?_, fun _ => ⟨a, rfl, fun j p hj => ?_⟩⟩
    · unfold maxLen at hm; omega
    · obtain ⟨cs', h1, h2⟩ := hys j p hj
      obtain ⟨_, h3, h4⟩ := World.cells?_some h1
      refine ⟨cs', h3, h2, fun i u hu => ?_⟩
      have hil : i < d.sz := by rw [← h3]; exact (List.getElem?_eq_some_iff.1 hu).1
      rw [← hu, ← h4 i hil, Go.Deep.add_add]
theorem zCJ {P : Program} {t : TypeId} {f0 f1 : Field} {α : Type} (hs : P.underlying t = some (.struct #[f0, f1])) (hone : oneCellFields P #[f0, f1] = true) (hC : P.cellsOf t = 2)
    (h0 : P.underlying f0.type = some (.int .i64)) (h1 : P.underlying f1.type = some (.int .i64)) (d : Kd α) (mk : Int → Int → α) (hK : ∀ w a b, d.K w (mk a b) [.int .i64 a, .int .i64 b]) : zDz P t d := by
  intro H enc w base spare held fuel cs x h
  obtain ⟨y0, y1, n, hx, hl, g0, g1⟩ := trod_struct2 hs h
  obtain ⟨o0, k0⟩ := hone_of hone 0 f0 rfl
  obtain ⟨o1, k1⟩ := hone_of hone 1 f1 rfl
  rw [hC] at hl
  match cs, hl with
  | [c0, c1], _ =>
    rw [o0, k0] at g0
    rw [o1, k1] at g1
    obtain ⟨a, e0, _, _⟩ := DataW.trod_int h0 g0
    obtain ⟨b, e1, _, _⟩ := DataW.trod_int h1 g1
    simp at e0 e1
    subst e0 e1
    exact ⟨mk a b, hK w a b⟩
section
variable {H : Type} {enc : TypeId × Value → H} {P : Program} {w : World} {base : Nat} {spare : Nat → Bool} {held : Bool}
theorem array1 {α : Type} {cs : Array α} (h : cs.size = 1) : ∃ c0, cs = #[c0] := by
  obtain ⟨l⟩ := cs
  match l, h with
  | [c0], _ => exact ⟨c0, rfl⟩
theorem zFS {r : Reach} {b0 : Nat} {t e : TypeId} {α : Type} {d : Kd α} {v : Value} {D : DataW H} {p : List MemPlace} (hu : P.underlying t = some (.slice e)) (ho : zDz P t (Kd.slice e d)) (hv : Value.okWide P w r b0 t v) (h : DataW.Trod enc P w base spare held t v D p) :
    ∃ (A : Option Addr) (c : Nat) (l : List α), v = .slice A l.length c ∧ l.length ≤ c ∧ d.C w A l.length l := by
  obtain ⟨a0, len, cap, rfl⟩ := okWide_slice hu hv
  obtain ⟨fuel, hf⟩ := h
  obtain ⟨l, A, c, e1, hl, hC⟩ := ho H enc w base spare held fuel _ _ hf
  simp [Value.cells] at e1
  obtain ⟨rfl, rfl, rfl⟩ := e1
  exact ⟨_, _, l, rfl, hl, hC⟩
theorem zEu {r : Reach} {b0 : Nat} {t e : TypeId} {f0 : Field} {α : Type} {d : Kd α} {v : Value} {D : DataW H} {p : List MemPlace} (hs : P.underlying t = some (.struct #[f0])) (hone : oneCellFields P #[f0] = true) (hC : P.cellsOf t = 1)
    (ho : zDz P f0.type (Kd.slice e d)) (hv : Value.okWide P w r b0 t v) (h : DataW.Trod enc P w base spare held t v D p) :
    ∃ (A : Option Addr) (c : Nat) (l : List α), v = .agg #[.slice A l.length c] ∧ l.length ≤ c ∧ d.C w A l.length l := by
  obtain ⟨cs, rfl, hsz⟩ := okWide_struct hs hv
  obtain ⟨c0, rfl⟩ := array1 (hsz.trans hC)
  obtain ⟨fuel, hf⟩ := h
  obtain ⟨y0, n, hx, _, h0⟩ := trod_struct1 hs hf
  obtain ⟨o0, k0⟩ := hone_of hone 0 f0 rfl
  have h0' : DataW.trod enc P w base spare held n f0.type [c0] = some y0 := by simpa [Value.cells, o0, k0] using h0
  obtain ⟨l, A, c, e1, hl, hCC⟩ := ho H enc w base spare held n _ _ h0'
  simp at e1
  subst e1
  exact ⟨A, c, l, rfl, hl, hCC⟩
end
theorem zEv {e : Nat} {α : Type} {d : Kd α} {w : World} {A : Option Addr} {l : List (List α)} (h : (Kd.slice e d).C w A l.length l) : l.length ≤ 9223372036854775807 ∧ ∀ r ∈ l, r.length ≤ 9223372036854775807 := by
  refine ⟨h.2.1, fun r hr => ?_⟩
  obtain ⟨j, hj, rfl⟩ := List.mem_iff_getElem.1 hr
  obtain ⟨ad, _, hc⟩ := h.2.2 (by omega)
  obtain ⟨c, _, hK, _⟩ := hc j _ (List.getElem?_eq_getElem hj)
  obtain ⟨A', c', _, _, hC⟩ := hK
  exact hC.2.1
end Go.Proofs.Ytdgdnnjigigkcaa.Lib
