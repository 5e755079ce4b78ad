/- The statement FnExactDiscsOfSaid, proved: part 7 of 8 (texts of this session and of the kit's print, put together and cut to what is used by a program of it). -/
import Derived.Test.YtfnopcbicceeaaaMFnExactDiscsOf6
import Derived.Deep.Slices
import Derived.ChangeSame
import Derived.ChangeArms
import Derived.WideShapes
import Derived.Lib.SmallJoins
import Derived.ChangeShapes
namespace Go.Proofs.Ytfnopcbicceeaaa.P
open Go.RowKit Go.Proofs.YtfnopcbicceeaaaW.PrintWords Go.Proofs.Ytfnopcbicceeaaa.Lib
set_option linter.unusedVariables false
def zF9 (cols : Nat) (j f b : Int) (p : List Int) : List (List Int) := (zEI [f]).map fun c => zDE cols j f b p c
theorem zBt (cols : Nat) (j f b : Int) (p : List Int) : ∀ (L : List Int) (A : List (List Int)), Qj cols j f b p L (A.flatten, (A.length : Int)) = ((A ++ L.map fun c => zDE cols j f b p c).flatten, ((A ++ L.map fun c => zDE cols j f b p c).length : Int))
 | [], A => by simp [Qj]
 | c :: cs, A => by
  have h := zBt cols j f b p cs (A ++ [zDE cols j f b p c])
  have e1 : (A ++ [zDE cols j f b p c]).flatten = A.flatten ++ zDE cols j f b p c := by simp
  have e2 : ((A ++ [zDE cols j f b p c]).length : Int) = (A.length : Int) + 1 := by simp
  rw [e1, e2] at h
  rw [Qj, h]
  simp
def zFA (cols : Nat) (A : List (List Int)) (j f : Nat) (x : zq) : List (List Int) :=
 if 4 * x.f0 + rd (ZN x.f1) (f : Int) < 4 * (j : Int) + (f : Int) then A else A ++ zF9 cols j f x.f0 (ZN x.f1)
theorem zDv {σ τ : Type} {Rel : σ → τ → Prop} {s1 : σ → Nat → Nat → zq → σ} {s2 : τ → Nat → Nat → zq → τ} (h : ∀ a b j f x, Rel a b → Rel (s1 a j f x) (s2 b j f x)) (j : Nat) : ∀ (r : List zq) (f : Nat) (a : σ) (b : τ), Rel a b → Rel (zEJ s1 j r f a) (zEJ s2 j r f b)
 | [], _, _, _, hr => hr
 | x :: xs, f, a, b, hr => by
  rw [zEJ, zEJ]
  refine zDv h j xs (f + 1) _ _ ?_
  split
  next =>
   exact hr
  next =>
   exact h _ _ _ _ _ hr
theorem zDw {σ τ : Type} {Rel : σ → τ → Prop} {s1 : σ → Nat → Nat → zq → σ} {s2 : τ → Nat → Nat → zq → τ} (h : ∀ a b j f x, Rel a b → Rel (s1 a j f x) (s2 b j f x)) : ∀ (l : List (List zq)) (j : Nat) (a : σ) (b : τ), Rel a b → Rel (zCN s1 l j a) (zCN s2 l j b)
 | [], _, _, _, hr => hr
 | r :: rs, j, a, b, hr => by
  rw [zCN, zCN]
  exact zDw h rs (j + 1) _ _ (zDv h j r 0 a b hr)
def Jf (t : Tri) : List (List Int) := zCN (zFA (7 * t.length)) t 0 []
theorem zFm (t : Tri) : zBS t = ((Jf t).flatten, ((Jf t).length : Int)) := by
 refine zDw (Rel := fun (a : List Int × Int) (b : List (List Int)) => a = (b.flatten, (b.length : Int))) (fun a b j f x hr => ?_) t 0 ([], 0) [] (by simp)
 rw [hr]
 unfold zAM zFA
 split
 next =>
  rfl
 next =>
  exact zBt _ _ _ _ _ _ _
def zAs (t : Tri) (a f : Int) : Prop := (fc t a f).f0 > a ∨ ((fc t a f).f0 = a ∧ rd (ZN (fc t a f).f1) f > f)
instance (t : Tri) (a f : Int) : Decidable (zAs t a f) := by unfold zAs; infer_instance
def Qk (t : Tri) (a : Int) : Int → Nat → List (List Int)
 | _, 0 => []
 | f, d + 1 => (if zAs t a f then [[a, f]] else []) ++ Qk t a (f + 1) d
def Qi (t : Tri) : Int → Nat → List (List Int)
 | _, 0 => []
 | a, d + 1 => Qk t a 0 4 ++ Qi t (a + 1) d
def zCT (t : Tri) (p : List Int) : List (List Int) := zF9 (7 * t.length) (rd p 0) (rd p 1) (fc t (rd p 0) (rd p 1)).f0 (ZN (fc t (rd p 0) (rd p 1)).f1)
theorem zGQ {t : Tri} (h : QR t = true) {a f : Int} (h0 : 0 ≤ a) (h1 : a < t.length) (hf0 : 0 ≤ f) (hf1 : f ≤ 3) (hb : ¬ (fc t a f).f0 < 0) : zAs t a f ↔ ¬ (4 * (fc t a f).f0 + rd (ZN (fc t a f).f1) f < 4 * a + f) := by
 rcases zAR h h0 h1 hf0 hf1 with ⟨e, _⟩ | ⟨⟨g0, g1, g2, g3⟩, _, _, hn⟩
 next =>
  omega
 next =>
  obtain ⟨k0, k1⟩ := zAN g2 g3 hf0 hf1
  unfold zAs
  generalize (fc t a f).f0 = b at *
  generalize rd (ZN (fc t a f).f1) f = g at *
  by_cases e : b = a
  rotate_left
  next =>
   constructor <;> intro hh <;> omega
  have : ¬ g = f := fun hc => hn ⟨e, hc⟩
  constructor <;> intro hh <;> omega
theorem zBu {t : Tri} (h : QR t = true) (j : Nat) (hj : j < t.length) : ∀ (d f : Nat) (A : List (List Int)), f + d = 4 → zEJ (zFA (7 * t.length)) j (t[j].drop f) f A = A ++ (Qk t j f d).flatMap (zCT t)
 | 0, f, A, hf => by
  have h4 : t[j].length = 4 := (Zh h).2.1 _ (List.getElem_mem hj)
  rw [List.drop_eq_nil_of_le (by omega), zEJ, Qk]; simp
 | d + 1, f, A, hf => by
  have h4 : t[j].length = 4 := (Zh h).2.1 _ (List.getElem_mem hj)
  have hlt : f < t[j].length := by omega
  have hfc : fc t (j : Int) (f : Int) = t[j][f] := by unfold fc; rw [Qt t j hj, zAa _ f hlt]
  rw [yoy hlt, zEJ, zBu h j hj d (f + 1) _ (by omega), Qk]
  have e1 : ((f : Int) + 1) = ((f + 1 : Nat) : Int) := by omega
  rw [e1, List.flatMap_append, ← List.append_assoc]
  congr 1
  have hff := zGQ (a := (j : Int)) (f := (f : Int)) h (by omega) (by omega) (by omega) (by omega)
  by_cases hb : t[j][f].f0 < 0
  next =>
   rw [if_pos hb, if_neg (fun hc => by unfold zAs at hc; rw [hfc] at hc; omega)]; simp
  next =>
   rw [if_neg hb]
   have hff2 := hff (by rw [hfc]; exact hb)
   rw [hfc] at hff2
   unfold zFA
   by_cases hc : 4 * t[j][f].f0 + rd (ZN t[j][f].f1) (f : Int) < 4 * (j : Int) + (f : Int)
   next =>
    rw [if_pos hc, if_neg (fun hq => (hff2.1 hq) hc)]; simp
   next =>
    rw [if_neg hc, if_pos (hff2.2 hc)]
    have e2 : zCT t [(j : Int), (f : Int)] = zF9 (7 * t.length) (j : Int) (f : Int) t[j][f].f0 (ZN t[j][f].f1) := by
     show zF9 (7 * t.length) (j : Int) (f : Int) (fc t (j : Int) (f : Int)).f0 (ZN (fc t (j : Int) (f : Int)).f1) = _
     rw [hfc]
    simp [e2]
theorem zBv {t : Tri} (h : QR t = true) : ∀ (d j : Nat) (A : List (List Int)), j + d = t.length → zCN (zFA (7 * t.length)) (t.drop j) j A = A ++ (Qi t j d).flatMap (zCT t)
 | 0, j, A, hj => by rw [List.drop_eq_nil_of_le (by omega), zCN, Qi]; simp
 | d + 1, j, A, hj => by
  have hlt : j < t.length := by omega
  have e1 : ((j : Int) + 1) = ((j + 1 : Nat) : Int) := by omega
  have h2 := zBu h j hlt 4 0 A (by omega)
  rw [List.drop_zero] at h2
  rw [yoy hlt, zCN, h2, zBv h d (j + 1) _ (by omega), Qi, List.flatMap_append, List.append_assoc, e1]
  rfl
theorem zA9 {t : Tri} (h : QR t = true) : Jf t = (Qi t 0 t.length).flatMap (zCT t) := by
 have := zBv h t.length 0 [] (by omega)
 rw [List.drop_zero, List.nil_append] at this
 exact this
theorem zFn {t : Tri} (h : QR t = true) : zGY t := by
 obtain ⟨h8, h4, _⟩ := Zh h
 refine ⟨h8, fun r hr => by rw [h4 r hr]; omega, fun r hr x hx hb => ?_⟩
 obtain ⟨j, hj, rfl⟩ := List.getElem_of_mem hr
 obtain ⟨f, hf, rfl⟩ := List.getElem_of_mem hx
 have h4' := h4 _ (List.getElem_mem hj)
 have hfc : fc t (j : Int) (f : Int) = t[j][f] := by unfold fc; rw [Qt t j hj, zAa _ f hf]
 have := zAR (a := (j : Int)) (f := (f : Int)) h (by omega) (by omega) (by omega) (by omega)
 rw [hfc] at this
 rcases this with ⟨e, _⟩ | ⟨⟨g0, g1, g2, g3⟩, _⟩
 next =>
  omega
 next =>
  exact ⟨g1, g2, g3⟩
theorem zEV {t : Tri} (h : QR t = true) : zx.f t = some (((Jf t).length : Int), 7 * (t.length : Int), (Jf t).flatten) := by
 unfold zx.f
 rw [if_pos (zFn h), zFm]
theorem zBE {t : Tri} (h : QR t = true) : ∀ r ∈ Jf t, r.length = 7 * t.length := by
 intro r hr
 rw [zA9 h] at hr
 obtain ⟨p, _, hp⟩ := List.mem_flatMap.1 hr
 obtain ⟨c, _, rfl⟩ := List.mem_map.1 hp
 exact zDN _ _ _ _ _ _
theorem zBw (t : Tri) (a : Int) : ∀ (d : Nat) (f : Int), (Qk t a f d).length ≤ d
 | 0, _ => by simp [Qk]
 | d + 1, f => by
  have := zBw t a d (f + 1)
  rw [Qk, List.length_append]
  split <;> simp <;> omega
theorem zAb (t : Tri) : ∀ (d : Nat) (a : Int), (Qi t a d).length ≤ 4 * d
 | 0, _ => by simp [Qi]
 | d + 1, a => by
  have := zAb t d (a + 1)
  have := zBw t a 4 0
  rw [Qi, List.length_append]
  omega
def zFB (t : Tri) (p : List Int) : Prop := ∃ a f : Int, p = [a, f] ∧ 0 ≤ a ∧ a < t.length ∧ 0 ≤ f ∧ f ≤ 3 ∧ ¬ (fc t a f).f0 < 0
theorem zD1 (t : Tri) {a : Int} (h0 : 0 ≤ a) (h1 : a < t.length) : ∀ (d : Nat) (f : Int), 0 ≤ f → f + d = 4 → ∀ p ∈ Qk t a f d, zFB t p
 | 0, _, _, _, p, hp => by simp [Qk] at hp
 | d + 1, f, hf, he, p, hp => by
  rw [Qk, List.mem_append] at hp
  rcases hp with hp | hp
  next =>
   by_cases hc : zAs t a f
   rotate_left
   next =>
    rw [if_neg hc] at hp; simp at hp
   rw [if_pos hc] at hp
   have : p = [a, f] := by simpa using hp
   exact ⟨a, f, this, h0, h1, hf, by omega, by unfold zAs at hc; omega⟩
  next =>
   exact zD1 t h0 h1 d (f + 1) (by omega) (by omega) p hp
theorem zD2 (t : Tri) : ∀ (d : Nat) (a : Int), 0 ≤ a → a + d = t.length → ∀ p ∈ Qi t a d, zFB t p
 | 0, _, _, _, p, hp => by simp [Qi] at hp
 | d + 1, a, ha, he, p, hp => by
  rw [Qi, List.mem_append] at hp
  rcases hp with hp | hp
  next =>
   exact zD1 t ha (by omega) 4 0 (by omega) (by omega) p hp
  next =>
   exact zD2 t d (a + 1) (by omega) (by omega) p hp
section
variable {t : Tri}
theorem zAA (h : QR t = true) {a : Int} (h0 : 0 ≤ a) (h1 : a < t.length) {R : List (List Int)} {D : Nat} (hR : ∀ acc : List (List Int), acc.length + D ≤ 100 → Ev (fun k => zn.l0 k acc (a + 1) t) (acc ++ R)) :
 ∀ (d : Nat) (f : Int) (acc : List (List Int)), 0 ≤ f → f + d = 4 → acc.length + d + D ≤ 100 → Ev (fun k => zn.l1 k acc a f t) (acc ++ Qk t a f d ++ R)
 | 0, f, acc, hf, he, hl => by
  have h8 := (Zh h).1
  refine qU (fun k => by rw [zn.l1, if_neg (by omega), qw (by omega) (by omega)]) ?_
  rw [Qk, List.append_nil]; exact hR acc (by omega)
 | d + 1, f, acc, hf, he, hl => by
  obtain ⟨h8, h4, _⟩ := Zh h
  have hr := zGZ h4 h0 h1
  refine qU (fun k => by rw [zn.l1, if_pos (by omega), if_pos h0, if_pos h1, if_pos hf, if_pos (by omega)]) ?_
  rw [Qk]
  have hyes : zAs t a f → Ev (fun k => if acc.length < 5864062014805 then zn.l1 k (acc ++ [[a, f]]) a (wrap64 (f + 1)) t else none) (acc ++ ((if zAs t a f then [[a, f]] else []) ++ Qk t a (f + 1) d) ++ R) := fun hc => by
   rw [if_pos hc]
   refine qg (by omega) (Ev.congr (fun k => by rw [qw (by omega) (by omega)]) ?_)
   have := zAA h h0 h1 hR d (f + 1) (acc ++ [[a, f]]) (by omega) (by omega) (by simp; omega)
   rwa [List.append_assoc acc] at this
  have hno : ¬ zAs t a f → Ev (fun k => zn.l1 k acc a (wrap64 (f + 1)) t) (acc ++ ((if zAs t a f then [[a, f]] else []) ++ Qk t a (f + 1) d) ++ R) := fun hc => by
   rw [if_neg hc, List.nil_append]
   exact Ev.congr (fun k => by rw [qw (by omega) (by omega)]) (zAA h h0 h1 hR d (f + 1) acc (by omega) (by omega) (by omega))
  change Ev (fun k => if (fc t a f).f0 > a then _ else if (fc t a f).f0 = a then (ZC.f k (fc t a f).f1 f).bind _ else _) _
  by_cases c1 : (fc t a f).f0 > a
  next =>
   exact qg c1 (hyes (.inl c1))
  next =>
   refine ZL c1 ?_
   by_cases c2 : (fc t a f).f0 = a
   rotate_left
   next =>
    exact ZL c2 (hno (fun hc => by rcases hc with hc | hc; exact c1 hc; exact c2 hc.1))
   have hp : 0 ≤ (fc t a f).f1 ∧ (fc t a f).f1 ≤ 23 := by
    rcases zAR h h0 h1 hf (by omega) with ⟨e, _⟩ | ⟨⟨_, _, g2, g3⟩, _⟩
    next =>
     omega
    next =>
     exact ⟨g2, g3⟩
   refine qg c2 (Ev.bind (zAv hp.1 hp.2 hf (by omega)) ?_)
   by_cases c3 : rd (ZN (fc t a f).f1) f > f
   next =>
    exact qg c3 (hyes (.inr ⟨c2, c3⟩))
   next =>
    exact ZL c3 (hno (fun hc => by rcases hc with hc | hc; exact c1 hc; exact c3 hc.2))
theorem zBF (h : QR t = true) : ∀ (d : Nat) (a : Int) (acc : List (List Int)), 0 ≤ a → a + d = t.length → acc.length + 4 * d ≤ 100 → Ev (fun k => zn.l0 k acc a t) (acc ++ Qi t a d)
 | 0, a, acc, ha, he, hl => by
  refine qU (fun k => by rw [zn.l0, zt.f, yfy, if_neg (by omega)]) ?_
  rw [Qi, List.append_nil]; exact Ev.now _
 | d + 1, a, acc, ha, he, hl => by
  refine qU (fun k => by rw [zn.l0, zt.f, yfy, if_pos (by omega)]) ?_
  have := zAA h ha (by omega) (R := Qi t (a + 1) d) (D := 4 * d) (fun acc2 hl2 => zBF h d (a + 1) acc2 (by omega) (by omega) hl2) 4 0 acc (by omega) (by omega) (by omega)
  rwa [List.append_assoc] at this
theorem zCU (h : QR t = true) : Ev (fun k => zn.f k t) (Qi t 0 t.length) := by
 have h8 := (Zh h).1
 have := zBF h t.length 0 [] (by omega) (by omega) (by simp; omega)
 rwa [List.nil_append] at this
theorem zBx {a b : Int} (ha : sm a) (hb : sm b) (hne : b ≠ a) : qE.f a b = some (qd b a) := by
 obtain ⟨ha0, ha1⟩ := ha
 obtain ⟨hb0, hb1⟩ := hb
 rcases (show a = 0 ∨ a = 1 ∨ a = 2 ∨ a = 3 by omega) with rfl | rfl | rfl | rfl <;> rcases (show b = 0 ∨ b = 1 ∨ b = 2 ∨ b = 3 by omega) with rfl | rfl | rfl | rfl <;> first | exact absurd rfl hne | decide +kernel
theorem qd_bd {a b : Int} (ha : sm a) (hb : sm b) (hne : a ≠ b) : 0 ≤ qd a b ∧ qd a b ≤ 2 := (zDM ha hb hne).2
theorem zBy (h : QR t = true) {P : List (List Int)} {i : Int} {a f : Int} (h0 : 0 ≤ a) (h1 : a < t.length) (hf0 : 0 ≤ f) (hf1 : f ≤ 3) (hb : ¬ (fc t a f).f0 < 0) {R : List (List Int)} {D : Nat} (hi : 0 ≤ i) (hi2 : i ≤ 1000)
 (hR : ∀ acc : List (List Int), acc.length + D ≤ 1000 → Ev (fun k => zi.l0 k acc P (i + 1) t) (acc ++ R)) :
 ∀ (d : Nat) (c : Int) (acc : List (List Int)), 0 ≤ c → c + d = 4 → acc.length + d + D ≤ 1000 → Ev (fun k => zi.l1 k acc P i a f c t) (acc ++ ((QJ c d).filter fun x => ![f].contains x).map (fun x => zDE (7 * t.length) a f (fc t a f).f0 (ZN (fc t a f).f1) x) ++ R)
 | 0, c, acc, hc, he, hl => by
  refine qU (fun k => by rw [zi.l1, if_neg (by omega), qw (by omega) (by omega)]) ?_
  rw [QJ]; simp only [List.filter_nil, yky, List.append_nil]; exact hR acc (by omega)
 | d + 1, c, acc, hc, he, hl => by
  obtain ⟨h8, h4, _⟩ := Zh h
  have ih := fun (acc2 : List (List Int)) (hl2 : acc2.length + d + D ≤ 1000) => zBy h h0 h1 hf0 hf1 hb hi hi2 hR d (c + 1) acc2 (by omega) (by omega) hl2
  by_cases hcf : c = f
  next =>
   refine qU (fun k => by rw [zi.l1, if_pos (by omega), if_pos hcf, qw (by omega) (by omega)]) ?_
   have e1 : (![f].contains c) = false := by simp [hcf]
   rw [QJ, List.filter_cons, e1, if_neg (by simp)]
   exact ih acc (by omega)
  next =>
   have e1 : (![f].contains c) = true := by simp [hcf]
   have hsc : sm c := ⟨hc, by omega⟩
   have hsf : sm f := ⟨hf0, hf1⟩
   obtain ⟨g0, g1, g2, g3⟩ : 0 ≤ (fc t a f).f0 ∧ (fc t a f).f0 < (t.length : Int) ∧ 0 ≤ (fc t a f).f1 ∧ (fc t a f).f1 ≤ 23 := by
    rcases zAR h h0 h1 hf0 hf1 with ⟨e, _⟩ | ⟨e, _⟩
    next =>
     omega
    next =>
     exact e
   have hd := zAN g2 g3 hc (show c ≤ 3 by omega)
   have hx := zAN g2 g3 hf0 hf1
   have hne := zCt g2 g3 hsc hsf hcf
   obtain ⟨q0, q1⟩ := qd_bd hsc hsf hcf
   obtain ⟨r0, r1⟩ := qd_bd hd hx hne
   have hmr : zDE (7 * t.length) a f (fc t a f).f0 (ZN (fc t a f).f1) c = zAY (zAY (zAL (zAL (List.replicate (7 * t.length) 0) (7 * a + c)) (7 * a + 4 + qd c f)) (7 * (fc t a f).f0 + rd (ZN (fc t a f).f1) c)) (7 * (fc t a f).f0 + 4 + qd (rd (ZN (fc t a f).f1) c) (rd (ZN (fc t a f).f1) f)) := rfl
   have hcorner : Ev (fun k => qc.f k t a f c) ((fc t a f).f0, rd (ZN (fc t a f).f1) f, rd (ZN (fc t a f).f1) c) := by
    have hr := zGZ h4 h0 h1
    refine Ev.congr (fun k => by unfold qc.f; rw [if_pos h0, if_pos h1, if_pos hf0, if_pos (by omega)]) ?_
    exact Ev.bind (zAv g2 g3 hf0 hf1) (Ev.bind (zAv g2 g3 hc (by omega)) (Ev.now _))
   have hbt1 := zBx hsf hsc hcf
   have hbt2 := zBx (show sm (rd (ZN (fc t a f).f1) f) from hx) (show sm (rd (ZN (fc t a f).f1) c) from hd) hne
   have hlt : (7 * (t.length : Int)) = ((7 * t.length : Nat) : Int) := by omega
   rw [QJ, List.filter_cons, e1, if_pos rfl, yjy, hmr]
   generalize (fc t a f).f0 = b at *
   generalize rd (ZN (fc t a f).f1) c = dd at *
   generalize rd (ZN (fc t a f).f1) f = x at *
   generalize qd c f = q at *
   generalize qd dd x = q2 at *
   obtain ⟨d0, d1⟩ := hd
   have w1 : wrap64 (7 * a) = 7 * a := qw (by omega) (by omega)
   have w2 : wrap64 (7 * a + c) = 7 * a + c := qw (by omega) (by omega)
   have w3 : wrap64 (7 * a + 4) = 7 * a + 4 := qw (by omega) (by omega)
   have w4 : wrap64 (7 * a + 4 + q) = 7 * a + 4 + q := qw (by omega) (by omega)
   have w5 : wrap64 (7 * b) = 7 * b := qw (by omega) (by omega)
   have w6 : wrap64 (7 * b + dd) = 7 * b + dd := qw (by omega) (by omega)
   have w7 : wrap64 (7 * b + 4) = 7 * b + 4 := qw (by omega) (by omega)
   have w8 : wrap64 (7 * b + 4 + q2) = 7 * b + 4 + q2 := qw (by omega) (by omega)
   have w9 : wrap64 (7 * (t.length : Int)) = 7 * (t.length : Int) := qw (by omega) (by omega)
   have w10 : wrap64 (c + 1) = c + 1 := qw (by omega) (by omega)
   have hln : (List.replicate (7 * t.length) (0 : Int)).length = 7 * t.length := List.length_replicate
   refine qU (fun k => by rw [zi.l1, if_pos (by omega), if_neg hcf, zt.f, yfy, w9, if_pos (by omega), if_pos (by omega), yfy, hlt, yny]) ?_
   refine Ev.bind hcorner ?_
   dsimp only
   refine Ev.congr (fun k => by rw [w1, w2, if_pos (by omega), if_pos (by rw [hln]; omega), yfy, hbt1, yfy, w3, w4, if_pos (by omega), if_pos (by rw [hln]; omega), yfy, w5, w6, if_pos (by omega), if_pos (by rw [hln]; omega), yfy, hbt2, yfy, w7, w8, if_pos (by omega), if_pos (by rw [hln]; omega), if_pos (by omega), w10]) ?_
   have := ih (acc ++ [zAY (zAY (zAL (zAL (List.replicate (7 * t.length) 0) (7 * a + c)) (7 * a + 4 + q)) (7 * b + dd)) (7 * b + 4 + q2)]) (by simp; omega)
   rw [List.append_assoc acc] at this
   exact this
theorem zBz (h : QR t = true) {P : List (List Int)} (hP : ∀ p ∈ P, zFB t p) (hPl : P.length ≤ 100) : ∀ (d i : Nat) (acc : List (List Int)), i + d = P.length → acc.length + 4 * d ≤ 1000 → Ev (fun k => zi.l0 k acc P (i : Int) t) (acc ++ (P.drop i).flatMap (zCT t))
 | 0, i, acc, he, hl => by
  refine qU (fun k => by rw [zi.l0, if_neg (by omega)]) ?_
  rw [List.drop_eq_nil_of_le (by omega)]; simp only [List.flatMap_nil, List.append_nil]; exact Ev.now _
 | d + 1, i, acc, he, hl => by
  have hlt : i < P.length := by omega
  obtain ⟨a, f, hp, h0, h1, hf0, hf1, hb⟩ := hP P[i] (List.getElem_mem hlt)
  have ex : zY P (i : Int) = [a, f] := by simp [zY, hlt, hp]
  refine qU (fun k => by rw [zi.l0, if_pos (by omega), if_pos (by omega), ex, if_pos (by simp), if_pos (by simp)]) ?_
  have := zBy h (P := P) (i := (i : Int)) h0 h1 hf0 hf1 hb (R := (P.drop (i + 1)).flatMap (zCT t)) (D := 4 * d) (by omega) (by omega) (fun acc2 hl2 => zBz h hP hPl d (i + 1) acc2 (by omega) hl2) 4 0 acc (by omega) (by omega) (by omega)
  rw [List.append_assoc] at this
  rw [yoy hlt, hp, List.flatMap_cons]
  exact this
theorem zD3 (h : QR t = true) : Ev (fun k => zi.f k t) (Jf t) := by
 have h8 := (Zh h).1
 have hl := zAb t t.length 0
 refine Ev.bind (zCU h) ?_
 have := zBz h (zD2 t t.length 0 (by omega) (by omega)) (by omega) (Qi t 0 t.length).length 0 [] (by omega) (by simp; omega)
 rw [List.nil_append, List.drop_zero, ← zA9 h] at this
 exact this
theorem zC0 (h : QR t = true) : (Jf t).length ≤ 1000 := by
 have h8 := (Zh h).1
 have hl := zAb t t.length 0
 rw [zA9 h, List.length_flatMap]
 have : ∀ P : List (List Int), ((P.map fun p => (zCT t p).length).sum) ≤ 4 * P.length := by
  intro P
  induction P with
  | nil => simp
  | cons p ps ih =>
   simp only [yjy, List.sum_cons, List.length_cons]
   have h1 : (zCT t p).length ≤ 4 := by unfold zCT zF9; rw [List.length_map]; exact zDq _
   omega
 have := this (Qi t 0 t.length)
 omega
end
def JN (t : Tri) : Int := if QR t then (if (t.length : Int) > 6 then 3 else 0) else 1
def inR (x : Int) : Bool := decide (0 ≤ x) && decide (x ≤ 1000)
theorem Qo {t : Tri} (h : JN t = 0) : QR t = true ∧ t.length ≤ 6 := by
  unfold JN at h
  cases ht : QR t with
  | false => rw [ht] at h; simp at h
  | true =>
    rw [ht, if_pos rfl] at h
    refine ⟨rfl, ?_⟩
    by_cases hl : (t.length : Int) > 6
    · rw [if_pos hl] at h; simp at h
    · omega
theorem zAS (t : Tri) : Ev (fun k => ZO.f k t) (JN t) := by
  refine Ev.bind (zCS t) ?_
  unfold JN
  cases QR t with
  | false => exact ZL (by simp) (Ev.now _)
  | true =>
    refine qg rfl (Ev.bind (Qx (by unfold zt.f; rfl)) ?_)
    rw [if_pos rfl]
    by_cases hl : (t.length : Int) > 6
    · exact qg hl (Jt (if_pos hl).symm)
    · exact ZL hl (Jt (if_neg hl).symm)
theorem zCV {t : Tri} (hs : Small t) : Ev (fun k => Za.f k t) (JN t) := by
  refine Ev.bind (zCR hs) ?_
  unfold JN
  cases QR t with
  | false => exact ZL (by simp) (Ev.now _)
  | true =>
    refine qg rfl ?_
    rw [if_pos rfl]
    by_cases hl : (t.length : Int) > 6
    · exact qg hl (Jt (if_pos hl).symm)
    · exact ZL hl (Jt (if_neg hl).symm)
theorem zFo (a b c : Int) : QZ.f a b c = some (decide (b ≤ a) && decide (a ≤ c)) := by
  unfold QZ.f
  by_cases h : b ≤ a <;> simp [h]
theorem zCW {α : Type} (l : List α) (z : α) (n : Nat) (h : n < l.length) :
    (l.take n ++ List.replicate (l.length - n) z).set n l[n] = l.take (n + 1) ++ List.replicate (l.length - (n + 1)) z := by
  have e : l.length - n = (l.length - (n + 1)) + 1 := by omega
  rw [e, List.replicate_succ, List.set_append_right _ _ (by simp; omega)]
  have : n - (l.take n).length = 0 := by simp; omega
  rw [this, yby, List.take_succ_eq_append_getElem h, List.append_assoc]
  rfl
theorem zDW (l : List Int) (h : l.length ≤ 4398046511104) : Ev (fun k => qM.f k l) l := by
  have hl : Ev (fun k => qM.l0 k l (List.replicate l.length 0) 0) l := by
    refine JV (fun k (s : List Int × Int) => qM.l0 k l s.1 s.2) (fun s => ∃ n : Nat, n ≤ l.length ∧ s.2 = n ∧ s.1 = l.take n ++ List.replicate (l.length - n) 0) (fun s => l.length - s.2.toNat) (fun _ => l) ?_ (List.replicate l.length 0, 0) ⟨0, by omega, rfl, by simp⟩
    rintro ⟨a, i⟩ ⟨n, hn, rfl, rfl⟩
    dsimp only
    by_cases hlt : n < l.length
    · refine .inr ⟨(l.take (n + 1) ++ List.replicate (l.length - (n + 1)) 0, ((n + 1 : Nat) : Int)), ⟨n + 1, by omega, rfl, rfl⟩, by simp; omega, rfl, fun k => ?_⟩
      simp only [qM.l0]
      rw [if_pos (by omega), if_pos (by omega), if_pos (by simp; omega), ZD (by omega), yny, zDR l n hlt, zCW l 0 n hlt]
    · obtain rfl : n = l.length := by omega
      refine .inl fun k => ?_
      simp only [qM.l0]
      rw [if_neg (by omega)]
      simp
  refine Ev.congr (fun k => ?_) hl
  unfold qM.f
  rw [if_pos (by omega), if_pos (by simp; omega), yny]
theorem zDX (l : List Int) (h : l.length ≤ 4398046511104) : Ev (fun k => qt.f k l l) true := by
  have hl : Ev (fun k => qt.l0 k l l 0) true := by
    refine JV (fun k (s : Int) => qt.l0 k l l s) (fun s => ∃ n : Nat, n ≤ l.length ∧ s = n) (fun s => l.length - s.toNat) (fun _ => true) ?_ 0 ⟨0, by omega, rfl⟩
    rintro i ⟨n, hn, rfl⟩
    by_cases hlt : n < l.length
    · refine .inr ⟨((n + 1 : Nat) : Int), ⟨n + 1, by omega, rfl⟩, by simp; omega, rfl, fun k => ?_⟩
      simp only [qt.l0]
      rw [if_pos (by omega), if_pos (by omega), if_pos (by omega), if_pos trivial, ZD (by omega)]
    · refine .inl fun k => ?_
      simp only [qt.l0]
      rw [if_neg (by omega)]
  refine Ev.congr (fun k => ?_) hl
  unfold qt.f
  rw [if_pos rfl]
theorem zDY (l : List Int) (a : Int) (n : Nat) (h : n < l.length) : (QJ a n ++ l.drop n).set n (a + n) = QJ a (n + 1) ++ l.drop (n + 1) := by
  rw [List.set_append_right _ _ (by rw [JW]; omega), JW, Nat.sub_self, yoy h, yby, zDS, List.append_assoc]
  rfl
theorem zCX (l : List Int) (a : Int) (h : l.length ≤ 4398046511104) (h0 : 0 ≤ a) (h1 : a ≤ 4398046511104) : Ev (fun k => qZ.f k l a) (a + l.length, QJ a l.length) := by
  have hl : Ev (fun k => qZ.l0 k l a 0) (a + l.length, QJ a l.length) := by
    refine JV (fun k (s : List Int × Int × Int) => qZ.l0 k s.1 s.2.1 s.2.2) (fun s => ∃ n : Nat, n ≤ l.length ∧ s.2.2 = n ∧ s.2.1 = a + n ∧ s.1 = QJ a n ++ l.drop n) (fun s => l.length - s.2.2.toNat) (fun _ => (a + l.length, QJ a l.length)) ?_ (l, a, 0) ⟨0, by omega, rfl, by simp, by simp [QJ]⟩
    rintro ⟨x, b, i⟩ ⟨n, hn, rfl, rfl, rfl⟩
    dsimp only
    have hlen : (QJ a n ++ l.drop n).length = l.length := by simp [JW]; omega
    by_cases hlt : n < l.length
    · refine .inr ⟨(QJ a (n + 1) ++ l.drop (n + 1), a + ((n + 1 : Nat) : Int), ((n + 1 : Nat) : Int)), ⟨n + 1, by omega, rfl, rfl, rfl⟩, by simp; omega, rfl, fun k => ?_⟩
      simp only [qZ.l0]
      rw [if_pos (by rw [hlen]; omega), if_pos (by omega), ZD (by omega), yny, zDY l a n hlt, qw (by omega) (by omega)]
      congr 1; omega
    · obtain rfl : n = l.length := by omega
      refine .inl fun k => ?_
      simp only [qZ.l0]
      rw [if_neg (by rw [hlen]; omega)]
      simp
  exact hl
def Ju (R : List (List Int)) (v : List Int) : Bool := R.all fun r => decide (zEO r v 0 = 0)
def JG (t : Tri) (v : List Int) : Bool := if (v.length : Int) = 7 * (t.length : Int) then (if v.all inR = true then Ju (Jf t) v else false) else false
def zAp (t : Tri) (v : List Int) : Bool := if JN t = 0 then JG t v else false
theorem zEW {t : Tri} {v : List Int} (hv : v.length ≤ 4398046511104) {R : Bool} (hR : Ev (fun k => (zi.f k t).bind fun t106 => zc.l1 k v t106 0) R) (d : Nat) : ∀ n : Nat, n + d = v.length → Ev (fun k => zc.l0 k v (n : Int) t) (if (v.drop n).all inR = true then R else false) := by
  induction d with
  | zero =>
    intro n hn
    refine qU (fun k => by rw [zc.l0, if_neg (by omega)]) ?_
    rw [List.drop_eq_nil_of_le (by omega), if_pos (by rfl)]; exact hR
  | succ d ih =>
    intro n hn
    have hlt : n < v.length := by omega
    refine qU (fun k => by rw [zc.l0, if_pos (by omega), if_pos (by omega), zDR v n hlt, zFo, yfy, ZD (by omega)]) ?_
    rw [yoy hlt, List.all_cons]
    change Ev (fun k => if inR v[n] = true then _ else _) _
    cases h : inR v[n] with
    | false => exact ZL (by simp) (by rw [Bool.false_and, if_neg (by simp)]; exact Ev.now _)
    | true => exact qg rfl (by rw [Bool.true_and]; exact ih (n + 1) (by omega))
theorem zBG (r v : List Int) (hl : r.length ≤ v.length) (hr : r.length ≤ 1000000) : ∀ (d n : Nat) (s : Int), n + d = r.length → Ev (fun k => ZF.l0 k r v s (n : Int)) (zEO (r.drop n) (v.drop n) s)
  | 0, n, s, hn => by
    refine qU (fun k => by rw [ZF.l0, if_neg (by omega)]) ?_
    rw [List.drop_eq_nil_of_le (by omega)]
    cases v.drop n <;> exact Ev.now _
  | d + 1, n, s, hn => by
    have hlt : n < r.length := by omega
    have hlv : n < v.length := by omega
    refine qU (fun k => by rw [ZF.l0, if_pos (by omega), if_pos (by omega), if_pos (by omega), zDR r n hlt, zDR v n hlv, ZD (by omega)]) ?_
    rw [yoy hlt, yoy hlv, zEO]
    exact zBG r v hl hr d (n + 1) _ (by omega)
theorem zDZ (r v : List Int) (hl : r.length ≤ v.length) (hr : r.length ≤ 1000000) : Ev (fun k => ZF.f k r v) (zEO r v 0) := by
  have := zBG r v hl hr r.length 0 0 (by omega)
  rwa [List.drop_zero, List.drop_zero] at this
theorem zC1 (R : List (List Int)) (v : List Int) (hR : ∀ r ∈ R, r.length ≤ v.length ∧ r.length ≤ 1000000) (hl : R.length ≤ 1000000) : ∀ (d n : Nat), n + d = R.length → Ev (fun k => zc.l1 k v R (n : Int)) (Ju (R.drop n) v)
  | 0, n, hn => by
    refine qU (fun k => by rw [zc.l1, if_neg (by omega)]) ?_
    rw [List.drop_eq_nil_of_le (by omega)]; exact Ev.now _
  | d + 1, n, hn => by
    have hlt : n < R.length := by omega
    have ex : zY R (n : Int) = R[n] := by simp [zY, hlt]
    have h1 := hR R[n] (List.getElem_mem hlt)
    refine qU (fun k => by rw [zc.l1, if_pos (by omega), if_pos (by omega), ex, ZD (by omega)]) ?_
    refine Ev.bind (zDZ _ v h1.1 h1.2) ?_
    unfold Ju
    rw [yoy hlt, List.all_cons]
    by_cases hz : zEO R[n] v 0 = 0
    · rw [ygy hz, Bool.true_and]
      exact qg hz (zC1 R v hR hl d (n + 1) (by omega))
    · rw [yhy hz, Bool.false_and]
      exact ZL hz (Ev.now _)
theorem zBW (t : Tri) (v : List Int) (hv : v.length ≤ 4398046511104) : Ev (fun k => zc.f k t v) (zAp t v) := by
  have hfalse : Ev (fun k => zc.j0 k v true t) false := qU (fun k => by rw [zc.j0, if_pos rfl]) (Ev.now false)
  refine Ev.bind (zAS t) ?_
  unfold zAp
  by_cases hc : JN t = 0
  · obtain ⟨ht, h6⟩ := Qo hc
    rw [if_pos hc]
    unfold JG
    refine qg hc (Ev.bind (Qx (by unfold zt.f; rfl)) ?_)
    refine Ev.congr (fun k => by rw [qw (by omega) (by omega)]) (f := fun k => zc.j0 k v ((v.length : Int) != (7 * (t.length : Int))) t) ?_
    by_cases hl : (v.length : Int) = 7 * (t.length : Int)
    · rw [if_pos hl]
      have e : ((v.length : Int) != (7 * (t.length : Int))) = false := by simp [hl]
      rw [e]
      refine qU (fun k => by rw [zc.j0, if_neg (by simp)]) ?_
      have hrows : Ev (fun k => (zi.f k t).bind fun t106 => zc.l1 k v t106 0) (Ju (Jf t) v) := by
        refine Ev.bind (zD3 ht) ?_
        have := zC1 (Jf t) v (fun r hr => by have := zBE ht r hr; omega) (by have := zC0 ht; omega) (Jf t).length 0 (by omega)
        rwa [List.drop_zero] at this
      have := zEW hv hrows v.length 0 (by omega)
      rwa [List.drop_zero] at this
    · rw [if_neg hl]
      have e : ((v.length : Int) != (7 * (t.length : Int))) = true := by simp [hl]
      rw [e]
      exact hfalse
  · rw [if_neg hc]
    exact ZL hc hfalse
theorem zD4 (cols : Nat) (A r B : List Int) (k : Nat) (hA : A.length = k * cols) (hr : r.length = cols) : rowAt cols (A ++ (r ++ B)) k = r := by
  unfold rowAt
  have h3 : (k + 1) * cols = A.length + r.length := by rw [Nat.succ_mul]; omega
  rw [h3, ← hA, ← List.append_assoc, List.take_append_of_le_length (by simp), List.take_of_length_le (by simp), List.drop_append_of_le_length (yqy _), List.drop_length, List.nil_append]
theorem zC2 (cols : Nat) (v : List Int) : ∀ (R : List (List Int)) (A : List Int) (k : Nat), A.length = k * cols → (∀ r ∈ R, r.length = cols) → Jr cols (A ++ R.flatten) v R.length k = Ju R v
  | [], _, _, _, _ => rfl
  | r :: R, A, k, hA, hR => by
    have hr := hR r (List.mem_cons_self ..)
    rw [List.length_cons, Jr, List.flatten_cons, zD4 cols A r _ k hA hr]
    have ih := zC2 cols v R (A ++ r) (k + 1) (by rw [List.length_append, hA, hr, Nat.succ_mul]) (fun x hx => hR x (List.mem_cons_of_mem _ hx))
    rw [List.append_assoc] at ih
    rw [ih]
    unfold Ju
    rw [List.all_cons]
    by_cases hz : zEO r v 0 = 0
    · rw [if_pos hz, ygy hz, Bool.true_and]
    · rw [if_neg hz, yhy hz, Bool.false_and]
theorem zBH (cols : Nat) : ∀ (R : List (List Int)), (∀ r ∈ R, r.length = cols) → R.flatten.length = R.length * cols
  | [], _ => by simp
  | r :: R, h => by
    rw [List.flatten_cons, List.length_append, zBH cols R (fun x hx => h x (List.mem_cons_of_mem _ hx)), h r (List.mem_cons_self ..), List.length_cons, Nat.succ_mul]; omega
theorem zBX {t : Tri} (h : QR t = true) (v : List Int) (hv : (v.length : Int) = 7 * (t.length : Int)) : Zf.f ((Jf t).length : Int) (7 * (t.length : Int)) (Jf t).flatten v = some (Ju (Jf t) v) := by
  have h8 := (Zh h).1
  have hs := zC0 h
  have hf := zBH (7 * t.length) (Jf t) (zBE h)
  have e7 : (7 * (t.length : Int)).toNat = 7 * t.length := by omega
  unfold Zf.f
  rw [if_pos ?_, e7, yny]
  · have := zC2 (7 * t.length) v (Jf t) [] 0 (by simp) (zBE h)
    rw [List.nil_append] at this
    rw [this]
  · refine ⟨by omega, by omega, by omega, by omega, ?_, by omega⟩
    rw [hf]; push_cast; rfl
theorem zFC (v : List Int) : za.f v = some (!(v.all inR)) := by
  unfold za.f qA.f
  rw [contO (p := fun y => !(inR y)) v (fun y _ => by
    show qL.f y = _
    unfold qL.f
    rw [zAZ]; rfl), List.not_all_eq_any_not]
theorem zCY {t : Tri} (h : QR t = true) (v : List Int) : qY.f t v = some (JG t v) := by
  have h8 := (Zh h).1
  unfold qY.f JG
  rw [qw (by omega) (by omega)]
  by_cases hl : (v.length : Int) = 7 * (t.length : Int)
  · rw [if_pos hl, if_pos hl, zFC, yfy]
    cases ha : v.all inR with
    | false => rfl
    | true => rw [if_neg (by simp), zEV h, yfy, zBX h v hl, yfy, if_pos rfl]
  · rw [if_neg hl, if_neg hl]
def zFD : Nat → List Int → List Int
  | _, [] => []
  | i, x :: xs => if x = 0 then zFD (i + 1) xs else (i : Int) :: zFD (i + 1) xs
theorem zFE (l : List Int) (n : Nat) (h : n < l.length) : zFD n (l.drop n) = if l[n] = 0 then zFD (n + 1) (l.drop (n + 1)) else (n : Int) :: zFD (n + 1) (l.drop (n + 1)) := by
  rw [yoy h]; rfl
theorem zAc (l : List Int) (h : l.length ≤ 4398046511104) : Ev (fun k => qK.f k l) (zFD 0 l) := by
  refine JV (fun k (s : List Int × Int) => qK.l0 k s.1 l (l.length : Int) s.2) (fun s => ∃ n : Nat, n ≤ l.length ∧ s.2 = n ∧ s.1.length ≤ n) (fun s => l.length - s.2.toNat) (fun s => s.1 ++ zFD s.2.toNat (l.drop s.2.toNat)) ?_ ([], 0) ⟨0, by omega, rfl, by simp⟩
  rintro ⟨a, i⟩ ⟨n, hn, rfl, ha⟩
  dsimp only at ha ⊢
  by_cases hlt : n < l.length
  · right
    rw [yny, zFE l n hlt]
    by_cases hx : l[n] = 0
    · refine ⟨(a, ((n + 1 : Nat) : Int)), ⟨n + 1, by omega, rfl, by dsimp only; omega⟩, by dsimp only; omega, by dsimp only; rw [yny, if_pos hx], fun k => ?_⟩
      simp only [qK.l0]
      rw [if_pos (by omega), if_pos (by omega), if_pos (by omega), zDR l n hlt, if_pos hx, ZD (by omega)]
    · refine ⟨(a ++ [(n : Int)], ((n + 1 : Nat) : Int)), ⟨n + 1, by omega, rfl, by simp; omega⟩, by dsimp only; omega, by dsimp only; rw [yny, if_neg hx]; simp, fun k => ?_⟩
      simp only [qK.l0]
      rw [if_pos (by omega), if_pos (by omega), if_pos (by omega), zDR l n hlt, if_neg hx, if_pos (by omega), ZD (by omega)]
  · obtain rfl : n = l.length := by omega
    refine .inl fun k => ?_
    simp only [qK.l0]
    rw [if_neg (by omega)]
    simp [zFD]
def nzc : List Int → Nat
  | [] => 0
  | x :: xs => if x = 0 then nzc xs else nzc xs + 1
theorem zFp (l : List Int) : ∀ i, (zFD i l).length = nzc l := by
  induction l with
  | nil => intro i; rfl
  | cons x xs ih => intro i; unfold zFD nzc; split <;> simp [ih]
def zGR (v : List Int) (i : Nat) : Bool := decide (nzc (Qr 7 4 3 v i) ≤ 1)
def zGS (v : List Int) : Nat → Nat → Bool
  | 0, _ => true
  | d + 1, n => zGR v n && zGS v d (n + 1)
def zGa (v : List Int) : Bool := zGS v (v.length / 7) 0
def zGT (v : List Int) : Nat → Bool
  | 0 => true
  | n + 1 => zGT v n && zGR v n
theorem zDx (v : List Int) : ∀ d n, zGS v d n = true ↔ ∀ i, n ≤ i → i < n + d → zGR v i = true
  | 0, n => by simp [zGS]; intro i h1 h2; omega
  | d + 1, n => by
    rw [zGS, Bool.and_eq_true, zDx v d (n + 1)]
    constructor
    · rintro ⟨h0, h1⟩ i hi hd
      rcases Nat.eq_or_lt_of_le hi with rfl | h
      · exact h0
      · exact h1 i h (by omega)
    · intro h
      exact ⟨h n (yqy _) (by omega), fun i hi hd => h i (by omega) (by omega)⟩
theorem zDy (v : List Int) : ∀ n, zGT v n = true ↔ ∀ i, i < n → zGR v i = true
  | 0 => by simp [zGT]
  | n + 1 => by
    rw [zGT, Bool.and_eq_true, zDy v n]
    constructor
    · rintro ⟨h0, h1⟩ i hi
      rcases Nat.lt_succ_iff_lt_or_eq.1 hi with h | rfl
      · exact h0 i h
      · exact h1
    · intro h
      exact ⟨fun i hi => h i (by omega), h n (by omega)⟩
theorem zGU (v : List Int) (n : Nat) : zGT v n = zGS v n 0 := by
  rw [Bool.eq_iff_iff, zDy, zDx]
  constructor
  · intro h i _ hi; exact h i (by omega)
  · intro h i hi; exact h i (by omega) (by omega)
theorem zAq {v : List Int} {n : Nat} (h : n * 7 + 7 ≤ v.length) : Qr 7 4 3 v n = [v[n * 7 + 4], v[n * 7 + 5], v[n * 7 + 6]] := by
  unfold Qr
  rw [yoy (by omega), List.take_succ_cons, yoy (by omega), List.take_succ_cons, yoy (by omega), List.take_succ_cons, List.take_zero]
theorem zFF (v : List Int) : ∀ n, n * 7 ≤ v.length → Ev (fun k => zDr (fun i => zGN (qK.f k) 7 4 3 v i) n) (zGT v n)
  | 0, _ => Ev.now true
  | n + 1, h => by
    refine Ev.bind (zFF v n (by omega)) ?_
    have h3 : (Qr 7 4 3 v n).length = 3 := by rw [zAq (by omega)]; rfl
    have hs := zAc (Qr 7 4 3 v n) (by omega)
    obtain ⟨K, hK⟩ := hs
    refine ⟨K, fun k hk => ?_⟩
    have h9 : qK.f k (Qr 7 4 3 v n) = some (zFD 0 (Qr 7 4 3 v n)) := hK k hk
    dsimp only
    unfold zGN
    rw [h9]
    simp [zGT, zGR, zFp]
theorem zD5 (v : List Int) (h7 : v.length % 7 = 0) (hl : v.length ≤ 7000000000) : Ev (fun k => qu.f k v) (zGa v) := by
  refine Ev.congr (fun k => by unfold qu.f; rw [if_pos ⟨h7, hl⟩]) ?_
  unfold zGa
  rw [← zGU]
  exact zFF v _ (by omega)
def nz1 (x : Int) : Int := if x = 0 then 0 else 1
theorem zGV (x : Int) : 0 ≤ nz1 x ∧ nz1 x ≤ 1 := by unfold nz1; split <;> omega
theorem JX (v : List Int) (n q : Nat) (hq4 : 4 ≤ q) (hq : q ≤ 6) (h : n * 7 + 7 ≤ v.length) (hb : v.length ≤ 7000000000) (hp : ∀ x ∈ v, 0 ≤ x) (c : Int) (hc0 : 0 ≤ c) (hc : c ≤ 10) {R : Bool} (hlt : n * 7 + q < v.length)
    (hR : Ev (fun k => qJ.l1 k v ((n * 7 : Nat) : Int) (c + nz1 v[n * 7 + q]) ((q + 1 : Nat) : Int)) R) : Ev (fun k => qJ.l1 k v ((n * 7 : Nat) : Int) c (q : Int)) R := by
  have e1 : wrap64 (((n * 7 : Nat) : Int) + (q : Int)) = ((n * 7 + q : Nat) : Int) := by rw [qw (by omega) (by omega)]; omega
  have e2 : wrap64 ((q : Int) + 1) = ((q + 1 : Nat) : Int) := ZD (by omega)
  have hv := hp v[n * 7 + q] (List.getElem_mem hlt)
  refine qU (fun k => by rw [qJ.l1, if_pos (by omega), e1, if_pos (by omega), if_pos (by omega), zDR v _ hlt, e2]) ?_
  by_cases hz : v[n * 7 + q] > 0
  · refine qg hz ?_
    have e3 : wrap64 (c + 1) = c + nz1 v[n * 7 + q] := by rw [qw (by omega) (by omega)]; unfold nz1; rw [if_neg (by omega)]
    rw [e3]; exact hR
  · refine ZL hz ?_
    have e3 : c = c + nz1 v[n * 7 + q] := by unfold nz1; rw [if_pos (by omega)]; omega
    rw [e3]; exact hR
theorem zDa (v : List Int) (n : Nat) (h : n * 7 + 7 ≤ v.length) (hb : v.length ≤ 7000000000) (hp : ∀ x ∈ v, 0 ≤ x) {R : Bool} (hR : Ev (fun k => qJ.l0 k v (((n + 1) * 7 : Nat) : Int)) R) : Ev (fun k => qJ.l1 k v ((n * 7 : Nat) : Int) 0 4) (zGR v n && R) := by
  have b4 := zGV (v[n * 7 + 4])
  have b5 := zGV (v[n * 7 + 5])
  have b6 := zGV (v[n * 7 + 6])
  refine JX v n 4 (by omega) (by omega) h hb hp 0 (by omega) (by omega) (by omega) ?_
  refine JX v n 5 (by omega) (by omega) h hb hp _ (by omega) (by omega) (by omega) ?_
  refine JX v n 6 (by omega) (by omega) h hb hp _ (by omega) (by omega) (by omega) ?_
  have e1 : wrap64 (((n * 7 : Nat) : Int) + 7) = (((n + 1) * 7 : Nat) : Int) := by rw [qw (by omega) (by omega)]; omega
  refine qU (fun k => by rw [qJ.l1, if_neg (by omega), e1]) ?_
  have hn : (0 + nz1 v[n * 7 + 4] + nz1 v[n * 7 + 5] + nz1 v[n * 7 + 6] : Int) = (nzc (Qr 7 4 3 v n) : Int) := by
    rw [zAq h]
    unfold nzc nzc nzc nzc nz1
    repeat' split
    all_goals simp
  rw [hn]
  unfold zGR
  by_cases hz : nzc (Qr 7 4 3 v n) ≤ 1
  · rw [ygy hz, Bool.true_and]
    exact ZL (by omega) hR
  · rw [yhy hz, Bool.false_and]
    exact qg (by omega) (Ev.now _)
theorem zBI (v : List Int) (hb : v.length ≤ 7000000000) (hp : ∀ x ∈ v, 0 ≤ x) (N : Nat) (hN : v.length = N * 7) : ∀ d n, n + d = N → Ev (fun k => qJ.l0 k v ((n * 7 : Nat) : Int)) (zGS v d n)
  | 0, n, hn => by
    have e1 : wrap64 (((n * 7 : Nat) : Int) + 7) = ((n * 7 + 7 : Nat) : Int) := by rw [qw (by omega) (by omega)]; omega
    refine qU (fun k => by rw [qJ.l0, e1, if_neg (by omega)]) ?_
    exact Ev.now _
  | d + 1, n, hn => by
    have e1 : wrap64 (((n * 7 : Nat) : Int) + 7) = ((n * 7 + 7 : Nat) : Int) := by rw [qw (by omega) (by omega)]; omega
    refine qU (fun k => by rw [qJ.l0, e1, if_pos (by omega)]) ?_
    exact zDa v n (by omega) hb hp (zBI v hb hp N hN d (n + 1) (by omega))
theorem zD6 (v : List Int) (h7 : v.length % 7 = 0) (hl : v.length ≤ 7000000000) (hp : ∀ x ∈ v, 0 ≤ x) : Ev (fun k => qJ.f k v) (zGa v) := by
  have := zBI v hl hp (v.length / 7) (by omega) (v.length / 7) 0 (by omega)
  unfold zGa
  exact this
theorem zAd {t : Tri} {v : List Int} (h : JG t v = true) : (v.length : Int) = 7 * (t.length : Int) ∧ (∀ x ∈ v, 0 ≤ x ∧ x ≤ 1000) ∧ Ju (Jf t) v = true := by
  unfold JG at h
  by_cases hl : (v.length : Int) = 7 * (t.length : Int)
  · rw [if_pos hl] at h
    by_cases ha : v.all inR = true
    · rw [if_pos ha] at h
      refine ⟨hl, fun x hx => ?_, h⟩
      have := List.all_eq_true.1 ha x hx
      unfold inR at this
      simp at this
      exact this
    · rw [if_neg ha] at h; cases h
  · rw [if_neg hl] at h; cases h
def zFM (t : Tri) (v : List Int) : Bool := if JG t v = true then zGa v else false
def adm (t : Tri) (v : List Int) : Bool := if zAp t v = true then zGa v else false
theorem zBJ {t : Tri} (h : JN t = 0) (v : List Int) : zAp t v = JG t v := by unfold zAp; rw [if_pos h]
theorem adm_eq {t : Tri} (h : JN t = 0) (v : List Int) : adm t v = zFM t v := by unfold adm zFM; rw [zBJ h]
theorem zDb {t : Tri} {v : List Int} (h : zAp t v = true) : JN t = 0 := by
  unfold zAp at h
  by_cases hc : JN t = 0
  · exact hc
  · rw [if_neg hc] at h; cases h
theorem zD7 {t : Tri} (hc : JN t = 0) (v : List Int) : Ev (fun k => qP.f k t v) (zFM t v) := by
  obtain ⟨ht, h6⟩ := Qo hc
  refine Ev.bind (Qx (zCY ht v)) ?_
  unfold zFM
  by_cases hn : JG t v = true
  · obtain ⟨hl, hr, _⟩ := zAd hn
    refine qg hn (Ev.bind (zD5 v (by omega) (by omega)) ?_)
    rw [if_pos hn]; exact Ev.now _
  · rw [if_neg hn]; exact ZL hn (Ev.now _)
theorem zDc (t : Tri) (v : List Int) (hv : v.length ≤ 4398046511104) : Ev (fun k => ZE.f k t v) (adm t v) := by
  refine Ev.bind (zBW t v hv) ?_
  unfold adm
  by_cases hn : zAp t v = true
  · have hc := zDb hn
    obtain ⟨ht, h6⟩ := Qo hc
    rw [zBJ hc] at hn
    obtain ⟨hl, hr, _⟩ := zAd hn
    rw [zBJ hc]
    refine qg hn (Ev.bind (zD6 v (by omega) (by omega) (fun x hx => (hr x hx).1)) ?_)
    rw [if_pos hn]; exact Ev.now _
  · rw [if_neg hn]; exact ZL hn (Ev.now _)
end Go.Proofs.Ytfnopcbicceeaaa.P
namespace Go.Proofs.Ytfnopcbicceeaaa.P
open Go.RowKit Go.Proofs.YtfnopcbicceeaaaW.PrintWords Go.Proofs.Ytfnopcbicceeaaa.Lib
set_option linter.unusedVariables false
set_option linter.unusedSimpArgs false
theorem zDz (pre : List qk) (d : qk) (r : List qk) : zj (pre ++ d :: r) (pre.length : Int) = d := by simp [zj]
theorem zDd (pre : List qk) (d x : qk) (r : List qk) : (pre ++ d :: r).set (pre.length : Int).toNat x = pre ++ x :: r := by simp
def mkD : Int → Nat → List qk
  | _, 0 => []
  | a, m + 1 => ⟨a, a + 1, a + 2⟩ :: mkD (a + 3) m
theorem wr3 {a : Int} (h0 : 0 ≤ a) (h1 : a ≤ 4398046511104) : wrap64 (a + 1) = a + 1 ∧ wrap64 (a + 1 + 1) = a + 2 ∧ wrap64 (a + 2 + 1) = a + 3 := by
  refine ⟨?_, ?_, ?_⟩ <;> (unfold wrap64; omega)
theorem zE0 : ∀ (suf pre : List qk) (a : Int), pre.length + suf.length ≤ 1048576 → 0 ≤ a → a + 3 * (suf.length : Int) ≤ 4398046511104 → Ev (fun k => qa.l0 k (pre ++ suf) a (pre.length : Int)) (a + 3 * (suf.length : Int), pre ++ mkD a suf.length)
  | [], pre, a, hn, h0, h1 => by
    refine qU (fun k => by rw [qa.l0, if_neg (by simp)]) ?_
    simpa [mkD] using Ev.now (a, pre)
  | d :: suf, pre, a, hn, h0, h1 => by
    rw [List.length_cons] at hn h1
    obtain ⟨w1, w2, w3⟩ := wr3 h0 (by omega)
    have ih := zE0 suf (pre ++ [⟨a, a + 1, a + 2⟩]) (a + 3) (by simp; omega) (by omega) (by push_cast at h1 ⊢; omega)
    refine qU (fun k => by rw [qa.l0, if_pos (by simp; omega), if_pos (by omega), zDz, zDd]) ?_
    refine Ev.bind (Ev.now _) ?_
    refine Ev.congr (fun k => by rw [zDz, zDd, w1]) ?_
    refine Ev.bind (Ev.now _) ?_
    refine Ev.congr (fun k => by rw [zDz, zDd, w2, w3]) ?_
    rw [List.append_assoc, List.singleton_append, List.length_append, List.length_singleton] at ih
    rw [ZD (by omega), List.length_cons, mkD]
    have e1 : (a + 3 + 3 * (suf.length : Int), pre ++ [⟨a, a + 1, a + 2⟩] ++ mkD (a + 3) suf.length) = (a + 3 * ((suf.length + 1 : Nat) : Int), pre ++ (⟨a, a + 1, a + 2⟩ :: mkD (a + 3) suf.length : List qk)) := by
      rw [List.append_assoc, List.singleton_append]
      congr 1
      push_cast
      omega
    rw [← e1]
    exact ih
theorem zD8 (l : List qk) (hl : l.length ≤ 1000) : Ev (fun k => qa.f k l 1) (1 + 3 * (l.length : Int), mkD 1 l.length) := by
  have := zE0 l [] 1 (by simp; omega) (by omega) (by omega)
  rw [List.nil_append, List.nil_append] at this
  exact this
theorem zE1 : ∀ (m : Nat) (pre : List qk) (a : Int), pre.length + m ≤ 1048576 → 0 ≤ a → a + 3 * (m : Int) ≤ 4398046511104 → Ev (fun k => qi.l0 k (pre ++ mkD a m) a (pre.length : Int)) (a + 3 * (m : Int))
  | 0, pre, a, hn, h0, h1 => by
    refine qU (fun k => by rw [qi.l0, if_neg (by simp [mkD])]) ?_
    exact Jt (by omega)
  | m + 1, pre, a, hn, h0, h1 => by
    obtain ⟨w1, w2, w3⟩ := wr3 h0 (by omega)
    have ih := zE1 m (pre ++ [⟨a, a + 1, a + 2⟩]) (a + 3) (by simp; omega) (by omega) (by push_cast at h1 ⊢; omega)
    refine qU (fun k => by rw [mkD, qi.l0, if_pos (by simp; omega), if_pos (by omega), zDz, w1, w2, w3, if_pos rfl, if_pos rfl, if_pos rfl]) ?_
    rw [List.append_assoc, List.singleton_append, List.length_append, List.length_singleton] at ih
    rw [ZD (by omega)]
    have e1 : a + 3 + 3 * (m : Int) = a + 3 * ((m + 1 : Nat) : Int) := by push_cast; omega
    rw [← e1]
    exact ih
theorem zD9 (m : Nat) (hm : m ≤ 1000) : Ev (fun k => qi.f k (mkD 1 m) 1) (1 + 3 * (m : Int)) := by
  have := zE1 m [] 1 (by simp; omega) (by omega) (by omega)
  rw [List.nil_append] at this
  exact this
theorem zG7 (l : List qk) (hl : l.length ≤ 1048576) : ∀ (d i : Nat), i + d = l.length → Ev (fun k => qF.l0 k l l (i : Int)) true
  | 0, i, h => qU (fun k => by rw [qF.l0, if_neg (by omega)]) (Ev.now _)
  | d + 1, i, h => by
    refine qU (fun k => by rw [qF.l0, if_pos (by omega), if_pos (by omega), if_pos (by omega)]) ?_
    refine Ev.bind (a := true) (Qx (by simp [QX.f])) (qg rfl ?_)
    rw [ZD (by omega)]
    exact zG7 l hl d (i + 1) (by omega)
theorem zEX (l : List qk) (hl : l.length ≤ 1048576) : Ev (fun k => qF.f k l l) true := by
  refine qg rfl ?_
  exact zG7 l hl l.length 0 (by omega)
def zBL : List Int → Int
  | [] => 0
  | x :: l => x + zBL l
theorem zGW (pre : List Int) (d : Int) (r : List Int) : rd (pre ++ d :: r) (pre.length : Int) = d := by simp [rd]
theorem zGX : ∀ (l : List Int), (∀ x ∈ l, 0 ≤ x ∧ x ≤ 1000) → 0 ≤ zBL l ∧ zBL l ≤ 1000 * (l.length : Int)
  | [], _ => by simp [zBL]
  | x :: l, h => by
    have h1 := h x (by simp)
    have h2 := zGX l (fun y hy => h y (by simp [hy]))
    rw [zBL, List.length_cons]
    push_cast
    omega
theorem zCZ : ∀ (l : List Int), (∀ x ∈ l, 0 ≤ x ∧ x ≤ 1000) → (zA0 l : Int) = zBL l
  | [], _ => rfl
  | x :: l, h => by
    have h1 := h x (by simp)
    have h2 := zCZ l (fun y hy => h y (by simp [hy]))
    rw [zBL, zA0]
    push_cast
    omega
theorem zE2 : ∀ (suf pre : List Int) (a L : Int), L = ((pre.length + suf.length : Nat) : Int) → (∀ x ∈ suf, 0 ≤ x ∧ x ≤ 1000) → pre.length + suf.length ≤ 1048576 → 0 ≤ a → a ≤ 1000 * (pre.length : Int) → Ev (fun k => qQ.l0 k a (pre ++ suf) L (pre.length : Int)) (if a + zBL suf > 240 then 3 else 0)
  | [], pre, a, L, hL, hx, hn, h0, h1 => by
    refine qU (fun k => by rw [qQ.l0, if_neg (by simp at hL; omega)]) ?_
    by_cases c : a > 240
    · have e : (if a + zBL [] > 240 then (3 : Int) else 0) = 3 := if_pos (by rw [zBL]; omega)
      rw [e]; exact qg c (Ev.now _)
    · have e : (if a + zBL [] > 240 then (3 : Int) else 0) = 0 := if_neg (by rw [zBL]; omega)
      rw [e]; exact ZL c (Ev.now _)
  | d :: suf, pre, a, L, hL, hx, hn, h0, h1 => by
    rw [List.length_cons] at hn hL
    have hd := hx d (by simp)
    have ih := zE2 suf (pre ++ [d]) (a + d) L (by rw [hL]; simp; omega) (fun y hy => hx y (by simp [hy])) (by simp; omega) (by omega) (by simp; omega)
    refine qU (fun k => by rw [qQ.l0, if_pos (by omega), if_pos (by omega), if_pos (by simp; omega), zGW, qw (x := a + d) (by omega) (by omega), ZD (by omega)]) ?_
    rw [List.append_assoc, List.singleton_append, List.length_append, List.length_singleton] at ih
    rw [zBL, ← Int.add_assoc]
    exact ih
theorem zE3 : ∀ (suf pre : List Int) (a : Int), (∀ x ∈ suf, 0 ≤ x ∧ x ≤ 1000) → pre.length + suf.length ≤ 1048576 → 0 ≤ a → a ≤ 1000 * (pre.length : Int) → Ev (fun k => qh.l0 k (pre ++ suf) a (pre.length : Int)) (a + zBL suf)
  | [], pre, a, hx, hn, h0, h1 => by
    refine qU (fun k => by rw [qh.l0, if_neg (by simp)]) ?_
    exact Jt (by rw [zBL]; omega)
  | d :: suf, pre, a, hx, hn, h0, h1 => by
    rw [List.length_cons] at hn
    have hd := hx d (by simp)
    have ih := zE3 suf (pre ++ [d]) (a + d) (fun y hy => hx y (by simp [hy])) (by simp; omega) (by omega) (by simp; omega)
    refine qU (fun k => by rw [qh.l0, if_pos (by simp; omega), if_pos (by omega), zGW, qw (x := a + d) (by omega) (by omega), ZD (by omega)]) ?_
    rw [List.append_assoc, List.singleton_append, List.length_append, List.length_singleton] at ih
    rw [zBL, ← Int.add_assoc]
    exact ih
theorem nsD_eq {i : Nat} (j : Nat) (h : i ≤ 1048576) : (⟨wrap64 (Int.tdiv (i : Int) 7), Int.tmod (i : Int) 7, (j : Int)⟩ : qk) = nsD i j := by
  unfold nsD
  rw [Int.tdiv_eq_ediv_of_nonneg (by omega), Int.tmod_eq_emod_of_nonneg (by omega), qw (by omega) (by omega)]
theorem zDA {v : List Int} {i : Nat} {c : Nat} (hi : i < v.length) (hv : v.length ≤ 1048576) (hc : rd v (i : Int) = (c : Int)) (hc1 : c ≤ 1000) {acc R : List qk} (ha : acc.length ≤ 10000000) (hR : Ev (fun k => qH.l0 k v (acc ++ Jd i c) ((i + 1 : Nat) : Int)) R) : ∀ (d j : Nat), j + d = c → Ev (fun k => qH.l1 k v (acc ++ Jd i j) (i : Int) (j : Int)) R
  | 0, j, h => by
    obtain rfl : j = c := by omega
    refine qU (fun k => by rw [qH.l1, if_pos (by omega), if_pos (by omega), hc, if_neg (by omega), ZD (by omega)]) hR
  | d + 1, j, h => by
    have hl : (acc ++ Jd i j).length < 5864062014805 := by rw [List.length_append, Jm]; omega
    have ih := zDA hi hv hc hc1 ha hR d (j + 1) (by omega)
    refine qU (fun k => by rw [qH.l1, if_pos (by omega), if_pos (by omega), hc, if_pos (by omega), if_pos hl, nsD_eq j (by omega), ZD (by omega), List.append_assoc, ← zBj]) ih
theorem zE4 : ∀ (suf pre : List Int), (∀ x ∈ suf, 0 ≤ x ∧ x ≤ 1000) → pre.length + suf.length ≤ 1000 → zA0 pre ≤ 1000 * pre.length → Ev (fun k => qH.l0 k (pre ++ suf) (Qn pre 0) (pre.length : Int)) (Qn (pre ++ suf) 0)
  | [], pre, hx, hn, hs => by
    refine qU (fun k => by rw [qH.l0, if_neg (by simp)]) ?_
    rw [List.append_nil]
    exact Ev.now _
  | d :: suf, pre, hx, hn, hs => by
    rw [List.length_cons] at hn
    have hd := hx d (by simp)
    have h1 := zAX pre d 0
    rw [Nat.zero_add] at h1
    have h2 := Jn pre 0
    have h3 : zA0 (pre ++ [d]) ≤ 1000 * (pre ++ [d]).length := by
      have h4 := Jn (pre ++ [d]) 0
      rw [h1, List.length_append, Jm, h2] at h4
      simp
      omega
    have ih := zE4 suf (pre ++ [d]) (fun y hy => hx y (by simp [hy])) (by simp; omega) h3
    rw [List.append_assoc, List.singleton_append, List.length_append, List.length_singleton, h1] at ih
    refine qU (fun k => by rw [qH.l0, if_pos (by simp; omega)]) ?_
    have := zDA (v := pre ++ d :: suf) (i := pre.length) (c := d.toNat) (by simp) (by simp; omega) (by rw [zGW]; omega) (by omega) (acc := Qn pre 0) (by omega) ih d.toNat 0 (by omega)
    simpa [Jd] using this
section
variable {t : Tri}
def zAe (t : Tri) (v : List Int) : Int := if JN t = 0 then (if zFM t v = true then (if zBL v > 240 then 3 else 0) else 5) else JN t
theorem zBK {v : List Int} (h : zFM t v = true) : (v.length : Int) = 7 * (t.length : Int) ∧ (∀ x ∈ v, 0 ≤ x ∧ x ≤ 1000) := by
  unfold zFM at h
  by_cases c : JG t v = true
  · have := zAd c
    exact ⟨this.1, this.2.1⟩
  · rw [if_neg c] at h; cases h
theorem zCa (hs : Small t) (v : List Int) : Ev (fun k => qQ.f k t v) (zAe t v) := by
  have hn := zCV hs
  unfold zAe
  by_cases c : JN t = 0
  · rw [if_pos c]
    have ha := zD7 c v
    have h6 := (Qo c).2
    cases hA : zFM t v with
    | false =>
      rw [hA] at ha
      rw [if_neg (by decide)]
      exact Ev.bind (a := 5) (Ev.bind hn (qg c (Ev.bind ha (ZL (by decide) (Ev.now _))))) (ZL (by decide) (Ev.now _))
    | true =>
      rw [hA] at ha
      rw [if_pos rfl]
      obtain ⟨g1, g2⟩ := zBK hA
      have := zE2 v [] 0 (v.length : Int) (by simp) g2 (by simp; omega) (by omega) (by simp)
      rw [List.nil_append, Int.zero_add] at this
      exact Ev.bind (a := JN t) (Ev.bind hn (qg c (Ev.bind ha (qg rfl (Ev.now _))))) (qg c this)
  · rw [if_neg c]
    exact Ev.bind (a := JN t) (Ev.bind hn (ZL c (Ev.now _))) (ZL c (Ev.now _))
theorem zCb (v : List Int) (hv : v.length ≤ 4398046511104) : Ev (fun k => Zz.f k t v) (zAe t v) := by
  have hn := zAS t
  unfold zAe
  by_cases c : JN t = 0
  · rw [if_pos c]
    have ha := zDc t v hv
    rw [adm_eq c] at ha
    have h6 := (Qo c).2
    cases hA : zFM t v with
    | false =>
      rw [hA] at ha
      rw [if_neg (by decide)]
      exact Ev.bind hn (qg c (Ev.bind ha (ZL (by decide) (Ev.now _))))
    | true =>
      rw [hA] at ha
      rw [if_pos rfl]
      obtain ⟨g1, g2⟩ := zBK hA
      have h := zE3 v [] 0 g2 (by simp; omega) (by omega) (by simp)
      rw [List.nil_append, Int.zero_add] at h
      refine Ev.bind hn (qg c (Ev.bind ha (qg rfl (Ev.bind h ?_))))
      by_cases cc : zBL v > 240
      · have e : (if zBL v > 240 then (3 : Int) else 0) = 3 := if_pos cc
        rw [e]; exact qg cc (Ev.now _)
      · have e : (if zBL v > 240 then (3 : Int) else 0) = 0 := if_neg cc
        rw [e]; exact ZL cc (Ev.now _)
  · rw [if_neg c]
    exact Ev.bind hn (ZL c (Ev.now _))
def dsR (t : Tri) (v : List Int) : List qk × Int := if zAe t v = 0 then (Qn v 0, 0) else ([], zAe t v)
theorem zAf {v : List Int} (h : zAe t v = 0) : t.length ≤ 6 ∧ (v.length : Int) = 7 * (t.length : Int) ∧ (∀ x ∈ v, 0 ≤ x ∧ x ≤ 1000) ∧ zBL v ≤ 240 := by
  unfold zAe at h
  by_cases c : JN t = 0
  · rw [if_pos c] at h
    cases hA : zFM t v with
    | false => rw [hA, if_neg (by decide)] at h; cases h
    | true =>
      rw [hA, if_pos rfl] at h
      obtain ⟨g1, g2⟩ := zBK hA
      by_cases cc : zBL v > 240
      · rw [if_pos cc] at h; cases h
      · exact ⟨(Qo c).2, g1, g2, by omega⟩
  · rw [if_neg c] at h; exact absurd h c
theorem zFG (t : Tri) (v : List Int) : (dsR t v).1.length ≤ 240 := by
  unfold dsR
  by_cases c : zAe t v = 0
  · rw [if_pos c]
    obtain ⟨h1, h2, h3, h4⟩ := zAf c
    have := zCZ v h3
    have := Jn v 0
    show (Qn v 0).length ≤ 240
    omega
  · rw [if_neg c]; show 0 ≤ 240; omega
theorem zDe (hs : Small t) (v : List Int) : Ev (fun k => Zo.f k t v) (dsR t v) := by
  refine Ev.bind (zCa hs v) ?_
  by_cases c : zAe t v = 0
  · have e : dsR t v = (Qn v 0, 0) := if_pos c
    rw [e]
    obtain ⟨h1, h2, h3, h4⟩ := zAf c
    have h5 := zCZ v h3
    have hok : zGP v := ⟨by omega, fun x hx => (h3 x hx).1, by omega⟩
    exact qg c (qg hok (Ev.now _))
  · have e : dsR t v = ([], zAe t v) := if_neg c
    rw [e]
    exact ZL c (Ev.now _)
theorem zDf (t : Tri) (v : List Int) (hv : v.length ≤ 4398046511104) : Ev (fun k => Qh.f k t v) (dsR t v) := by
  refine Ev.bind (zCb v hv) ?_
  by_cases c : zAe t v = 0
  · have e : dsR t v = (Qn v 0, 0) := if_pos c
    rw [e]
    obtain ⟨h1, h2, h3, h4⟩ := zAf c
    have h := zE4 v [] h3 (by simp; omega) (by simp [zA0])
    exact qg c (Ev.bind h (Ev.now _))
  · have e : dsR t v = ([], zAe t v) := if_neg c
    rw [e]
    exact ZL c (Ev.now _)
end
end Go.Proofs.Ytfnopcbicceeaaa.P
namespace Go.Proofs.Ytfnopcbicceeaaa.P
open Go.RowKit Go.Proofs.YtfnopcbicceeaaaW.PrintWords Go.Proofs.Ytfnopcbicceeaaa.Lib
set_option linter.unusedVariables false
def mkR (a : Int) : Nat → List zq
  | 0 => []
  | n + 1 => ⟨a, a + 1⟩ :: mkR (a + 2) n
theorem zAg (a : Int) (n : Nat) : (mkR a n).length = n := by
  induction n generalizing a with
  | zero => rfl
  | succ n ih => simp [mkR, ih]
theorem zFq (a : Int) (n : Nat) : mkR a (n + 1) = mkR a n ++ [⟨a + 2 * n, a + 2 * n + 1⟩] := by
  induction n generalizing a with
  | zero => simp [mkR]
  | succ n ih =>
    rw [mkR, ih (a + 2)]
    have e : a + 2 + 2 * (n : Int) = a + 2 * ((n + 1 : Nat) : Int) := by omega
    rw [e]; rfl
theorem mk_set (l : List zq) (a : Int) (n : Nat) (h : n < l.length) : (mkR a n ++ l.drop n).set n ⟨a + 2 * n, a + 2 * n + 1⟩ = mkR a (n + 1) ++ l.drop (n + 1) := by
  rw [List.set_append_right _ _ (by rw [zAg]; exact yqy _), zAg, Nat.sub_self, yoy h, yby, zFq, List.append_assoc]
  rfl
theorem zDg (l : List zq) (n : Nat) (v : zq) (h : n < l.length) : zG (l.set n v) (n : Int) = v := by
  rw [zAa _ n (by rw [List.length_set]; exact h), List.getElem_set_self]
theorem zDB (l : List zq) (a : Int) (h : l.length ≤ 1099511627776) (h0 : 0 ≤ a) (h1 : a ≤ 9007199254740992) : Ev (fun k => qb.f k l a) (a + 2 * l.length, mkR a l.length) := by
  have hl : Ev (fun k => qb.l0 k l a 0) (a + 2 * l.length, mkR a l.length) := by
    refine JV (fun k (s : List zq × Int × Int) => qb.l0 k s.1 s.2.1 s.2.2) (fun s => ∃ n : Nat, n ≤ l.length ∧ s.2.2 = n ∧ s.2.1 = a + 2 * n ∧ s.1 = mkR a n ++ l.drop n) (fun s => l.length - s.2.2.toNat) (fun _ => (a + 2 * l.length, mkR a l.length)) ?_ (l, a, 0) ⟨0, by omega, rfl, by simp, by simp [mkR]⟩
    rintro ⟨x, b, i⟩ ⟨n, hn, rfl, rfl, rfl⟩
    dsimp only
    have hlen : (mkR a n ++ l.drop n).length = l.length := by simp [zAg]; omega
    by_cases hlt : n < l.length
    · refine .inr ⟨(mkR a (n + 1) ++ l.drop (n + 1), a + 2 * ((n + 1 : Nat) : Int), ((n + 1 : Nat) : Int)), ⟨n + 1, by omega, rfl, rfl, rfl⟩, by simp; omega, rfl, fun k => ?_⟩
      simp only [qb.l0]
      rw [if_pos (by rw [hlen]; omega), if_pos (by omega), yfy, yny, zDg _ n _ (by rw [hlen]; exact hlt), List.set_set, qw (x := a + 2 * (n : Int) + 1) (by omega) (by omega), mk_set l a n hlt, ZD (by omega), qw (by omega) (by omega)]
      congr 1; omega
    · obtain rfl : n = l.length := by omega
      refine .inl fun k => ?_
      simp only [qb.l0]
      rw [if_neg (by rw [hlen]; omega)]
      simp
  exact hl
def zEa : Tri → Nat
  | [] => 0
  | r :: rs => 2 * r.length + zEa rs
def mkT (a : Int) : Tri → Tri
  | [] => []
  | r :: rs => mkR a r.length :: mkT (a + 2 * r.length) rs
theorem zFH (t : Tri) (h : ∀ r ∈ t, r.length ≤ 1048576) : zEa t ≤ 2097152 * t.length := by
  induction t with
  | nil => simp [zEa]
  | cons r rs ih =>
    have h1 := h r (List.mem_cons_self ..)
    have h2 := ih (fun x hx => h x (List.mem_cons_of_mem _ hx))
    simp only [zEa, List.length_cons]; omega
theorem zDC : ∀ (suf : Tri) (pre : Tri) (a : Int), (∀ r ∈ suf, r.length ≤ 1048576) → 0 ≤ a → a + zEa suf ≤ 9007199254740992 → Ev (fun k => qv.go k suf.length (pre ++ suf) a pre.length) (a + zEa suf, pre ++ mkT a suf)
  | [], pre, a, _, h0, h1 => zCz fun k => by simp [qv.go, zEa, mkT]
  | r :: rs, pre, a, hr, h0, h1 => by
    simp only [zEa] at h1
    have hm := zDB r a (by have := hr r (List.mem_cons_self ..); omega) h0 (by omega)
    have ih := zDC rs (pre ++ [mkR a r.length]) (a + 2 * r.length) (fun x hx => hr x (List.mem_cons_of_mem _ hx)) (by omega) (by omega)
    simp only [List.length_cons, qv.go]
    have e0 : List.getD (pre ++ r :: rs) pre.length [] = r := by simp
    rw [e0]
    refine Ev.bind hm ?_
    dsimp only
    have e1 : (pre ++ r :: rs).set pre.length (mkR a r.length) = pre ++ [mkR a r.length] ++ rs := by
      rw [List.set_append_right _ _ (yqy _), Nat.sub_self, yby]; simp
    rw [e1]
    have e2 : pre.length + 1 = (pre ++ [mkR a r.length]).length := by simp
    rw [e2]
    have e3 : (a + ((zEa (r :: rs) : Nat) : Int), pre ++ mkT a (r :: rs)) = (a + 2 * r.length + (zEa rs : Int), pre ++ [mkR a r.length] ++ mkT (a + 2 * r.length) rs) := by
      simp only [zEa, mkT, List.append_assoc, List.singleton_append]; congr 1; omega
    rw [e3]
    exact ih
theorem zA2 (t : Tri) (a : Int) (hs : Small t) (h0 : 0 ≤ a) (h1 : a ≤ 1048576) : Ev (fun k => ZX.f k t a) (a + zEa t, mkT a t) := by
  have := zDC t [] a hs.2 h0 (by have := zFH t hs.2; have := hs.1; omega)
  rw [List.nil_append, List.nil_append] at this
  exact this
end Go.Proofs.Ytfnopcbicceeaaa.P
namespace Go.Proofs.Ytfnopcbicceeaaa.Pure
open Go.RowKit Go.Proofs.Ytfnopcbicceeaaa.P Go.Proofs.Ytfnopcbicceeaaa.Lib Go.Proofs.YtfnopcbicceeaaaW.PrintWords
theorem zBY (l : List (List qR)) (x : List Int) (h : Fits l) (hx : x.length ≤ 9223372036854775807) : ∃ k, Zg.f k l x = some true := by
  refine Ev.rounds ?_
  by_cases hx1 : (x.length : Int) > 1048576
  · exact qg hx1 (Ev.now true)
  refine ZL hx1 ?_
  obtain ⟨r, hr, hs⟩ := zAO l h
  refine Ev.bind hr ?_
  by_cases hn : r < 0
  · exact qg hn (Ev.now true)
  have hsm := hs hn
  have hto := zAP l hsm
  have htx := zDW x (by omega)
  have hS := zF5 hsm
  have hcnt := zFH (cvT l) hS.2
  have hc1 := hS.1
  have ho := zFG (cvT l) x
  have hsp := zDf (cvT l) x (by omega)
  have him := zDe hS x
  generalize dsR (cvT l) x = o at *
  have heq := zEX o.1 (by omega)
  have hh := zD9 o.1.length (by omega)
  have hex := zDX x (by omega)
  refine ZL hn ?_
  refine Ev.bind hto ?_
  refine Ev.bind htx ?_
  refine Ev.bind hsp ?_
  refine Ev.bind hto ?_
  refine Ev.bind htx ?_
  refine Ev.bind him ?_
  refine Ev.bind heq (qg rfl (qg rfl ?_))
  refine Ev.bind hto ?_
  refine Ev.bind (zAQ _ hS) (qg rfl ?_)
  refine Ev.bind htx ?_
  refine Ev.bind hex (qg rfl ?_)
  refine Ev.bind (zA2 _ 1 hS (by omega) (by omega)) ?_
  refine Ev.bind (zCX x _ (by omega) (by dsimp only; omega) (by dsimp only; omega)) ?_
  refine ZL (by dsimp only; omega) ?_
  refine Ev.bind heq (qg rfl (qg rfl ?_))
  refine Ev.bind (zD8 o.1 (by omega)) ?_
  refine Ev.bind hh ?_
  refine ZL (by omega) (qg rfl ?_)
  refine Ev.bind hto ?_
  refine Ev.bind htx ?_
  refine Ev.bind him ?_
  refine Ev.bind heq (qg rfl (qg rfl ?_))
  refine Ev.bind hh ?_
  exact ZL (by omega) (qg rfl (Ev.now true))
end Go.Proofs.Ytfnopcbicceeaaa.Pure
namespace Go.Proofs.Ytfnopcbicceeaaa.Lib
open Go.RowKit Go.Proofs.YtfnopcbicceeaaaW.PrintWords Go.Joins Go.Deep Go.WideShapes Go.ChangeShapes
set_option linter.unusedVariables false
def zEY (P : Program) (t : TypeId) {α : Type} (d : Kd α) : Prop := ∀ (H : Type) (enc : TypeId × Value → H) (w : World) (base : Nat) (spare : Nat → Bool) (held : Bool) (fuel : Nat) (cs : List Value) (x : DataW H × List MemPlace),
  DataW.trod enc P w base spare held fuel t cs = some x → ∃ y, d.K w y cs
theorem zFI {P : Program} {t : TypeId} {k : IntKind} (ht : P.underlying t = some (.int k)) : zEY P t (Kd.int k) := by
  intro H enc w base spare held fuel cs x h
  obtain ⟨n, rfl, _, _⟩ := DataW.trod_int ht h
  exact ⟨n, rfl⟩
theorem zDD {α : Type} {R : Nat → α → Prop} : ∀ n, (∀ i, i < n → ∃ y, R i y) → ∃ ys : List α, ys.length = n ∧ ∀ j p, ys[j]? = some p → R j p
  | 0, _ => ⟨[], rfl, fun j p h => by simp at h⟩
  | n + 1, h => by
    obtain ⟨ys, hl, hr⟩ := zDD n (fun i hi => h i (by omega))
    obtain ⟨y, hy⟩ := h n (by omega)
    refine ⟨ys ++ [y], by simp [hl], fun j p hj => ?_⟩
    by_cases hlt : j < n
    · rw [List.getElem?_append_left (by omega)] at hj
      exact hr j p hj
    · have hjn : j < (ys ++ [y]).length := (List.getElem?_eq_some_iff.1 hj).1
      have : j = n := by simp [hl] at hjn; omega
      subst this
      rw [List.getElem?_append_right (by omega), hl, Nat.sub_self] at hj
      injection hj with hj
      rw [← hj]
      exact hy
theorem zAB {P : Program} {t e : TypeId} {α : Type} {d : Kd α} (ht : P.underlying t = some (.slice e)) (hc : P.cellsOf e = d.sz) (h : zEY P e d) : zEY P t (Kd.slice e d) := by
  intro H enc w base spare held fuel cs x hx
  rcases open_slice ht hx with ⟨rfl, _⟩ | ⟨a, len, cap, m, n, D, Pl, rfl, hb, hl, hm, hmm, _, hi⟩
  · exact ⟨[], none, 0, rfl, yqy _, Kd.C_nil d w⟩
  · have each : ∀ i, i < len → ∃ y, ∃ cs', w.cells? base (a.add (i * d.sz)) d.sz = some cs' ∧ d.K w y cs' := by
      intro i hil
      have him : i < m := by rw [hmm]; split <;> omega
      obtain ⟨cs', h1, h2⟩ := hi i him
      obtain ⟨y, hy⟩ := h H enc w base spare held n cs' _ h2
      rw [hc] at h1
      exact ⟨y, cs', h1, hy⟩
    obtain ⟨ys, hlen, hys⟩ := zDD len each
    refine ⟨ys, some a, cap, by rw [hlen], by omega, rfl, ?_, fun _ => ⟨a, rfl, fun j p hj => ?_⟩⟩
    · unfold maxLen at hm; omega
    · obtain ⟨cs', h1, h2⟩ := hys j p hj
      obtain ⟨_, h3, h4⟩ := World.cells?_some h1
      refine ⟨cs', h3, h2, fun i u hu => ?_⟩
      have hil : i < d.sz := by rw [← h3]; exact (List.getElem?_eq_some_iff.1 hu).1
      rw [← hu, ← h4 i hil, Go.Deep.add_add]
theorem zCc {P : Program} {t : TypeId} {f0 f1 : Field} {α : Type} (hs : P.underlying t = some (.struct #[f0, f1])) (hone : oneCellFields P #[f0, f1] = true) (hC : P.cellsOf t = 2)
    (h0 : P.underlying f0.type = some (.int .i64)) (h1 : P.underlying f1.type = some (.int .i64)) (d : Kd α) (mk : Int → Int → α) (hK : ∀ w a b, d.K w (mk a b) [.int .i64 a, .int .i64 b]) : zEY P t d := by
  intro H enc w base spare held fuel cs x h
  obtain ⟨y0, y1, n, hx, hl, g0, g1⟩ := trod_struct2 hs h
  obtain ⟨o0, k0⟩ := hone_of hone 0 f0 rfl
  obtain ⟨o1, k1⟩ := hone_of hone 1 f1 rfl
  rw [hC] at hl
  match cs, hl with
  | [c0, c1], _ =>
    rw [o0, k0] at g0
    rw [o1, k1] at g1
    obtain ⟨a, e0, _, _⟩ := DataW.trod_int h0 g0
    obtain ⟨b, e1, _, _⟩ := DataW.trod_int h1 g1
    simp at e0 e1
    subst e0 e1
    exact ⟨mk a b, hK w a b⟩
section
variable {H : Type} {enc : TypeId × Value → H} {P : Program} {w : World} {base : Nat} {spare : Nat → Bool} {held : Bool}
theorem array1 {α : Type} {cs : Array α} (h : cs.size = 1) : ∃ c0, cs = #[c0] := by
  obtain ⟨l⟩ := cs
  match l, h with
  | [c0], _ => exact ⟨c0, rfl⟩
theorem zFr {r : Reach} {b0 : Nat} {t e : TypeId} {α : Type} {d : Kd α} {v : Value} {D : DataW H} {p : List MemPlace} (hu : P.underlying t = some (.slice e)) (ho : zEY P t (Kd.slice e d)) (hv : Value.okWide P w r b0 t v) (h : DataW.Trod enc P w base spare held t v D p) :
    ∃ (A : Option Addr) (c : Nat) (l : List α), v = .slice A l.length c ∧ l.length ≤ c ∧ d.C w A l.length l := by
  obtain ⟨a0, len, cap, rfl⟩ := okWide_slice hu hv
  obtain ⟨fuel, hf⟩ := h
  obtain ⟨l, A, c, e1, hl, hC⟩ := ho H enc w base spare held fuel _ _ hf
  simp [Value.cells] at e1
  obtain ⟨rfl, rfl, rfl⟩ := e1
  exact ⟨_, _, l, rfl, hl, hC⟩
theorem zFJ {r : Reach} {b0 : Nat} {t e : TypeId} {f0 : Field} {α : Type} {d : Kd α} {v : Value} {D : DataW H} {p : List MemPlace} (hs : P.underlying t = some (.struct #[f0])) (hone : oneCellFields P #[f0] = true) (hC : P.cellsOf t = 1)
    (ho : zEY P f0.type (Kd.slice e d)) (hv : Value.okWide P w r b0 t v) (h : DataW.Trod enc P w base spare held t v D p) :
    ∃ (A : Option Addr) (c : Nat) (l : List α), v = .agg #[.slice A l.length c] ∧ l.length ≤ c ∧ d.C w A l.length l := by
  obtain ⟨cs, rfl, hsz⟩ := okWide_struct hs hv
  obtain ⟨c0, rfl⟩ := array1 (hsz.trans hC)
  obtain ⟨fuel, hf⟩ := h
  obtain ⟨y0, n, hx, _, h0⟩ := trod_struct1 hs hf
  obtain ⟨o0, k0⟩ := hone_of hone 0 f0 rfl
  have h0' : DataW.trod enc P w base spare held n f0.type [c0] = some y0 := by simpa [Value.cells, o0, k0] using h0
  obtain ⟨l, A, c, e1, hl, hCC⟩ := ho H enc w base spare held n _ _ h0'
  simp at e1
  subst e1
  exact ⟨A, c, l, rfl, hl, hCC⟩
end
theorem zFK {e : Nat} {α : Type} {d : Kd α} {w : World} {A : Option Addr} {l : List (List α)} (h : (Kd.slice e d).C w A l.length l) : l.length ≤ 9223372036854775807 ∧ ∀ r ∈ l, r.length ≤ 9223372036854775807 := by
  refine ⟨h.2.1, fun r hr => ?_⟩
  obtain ⟨j, hj, rfl⟩ := List.mem_iff_getElem.1 hr
  obtain ⟨ad, _, hc⟩ := h.2.2 (by omega)
  obtain ⟨c, _, hK, _⟩ := hc j _ (List.getElem?_eq_getElem hj)
  obtain ⟨A', c', _, _, hC⟩ := hK
  exact hC.2.1
end Go.Proofs.Ytfnopcbicceeaaa.Lib
