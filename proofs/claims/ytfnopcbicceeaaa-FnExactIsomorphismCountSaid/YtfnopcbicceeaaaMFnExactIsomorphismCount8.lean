/- The statement FnExactIsomorphismCountSaid, proved: part 8 of 9 (texts of this session and of the kit's print, put together and cut to what is used by a program of it). -/
import Derived.Test.YtfnopcbicceeaaaMFnExactIsomorphismCount7
import Derived.Deep.Slices
import Derived.ChangeSame
import Derived.ChangeArms
import Derived.WideShapes
import Derived.Lib.SmallJoins
import Derived.ChangeShapes
namespace Go.Proofs.Ytfnopcbicceeaaa.P
open Go.RowKit Go.Proofs.YtfnopcbicceeaaaW.PrintWords Go.Proofs.Ytfnopcbicceeaaa.Lib
set_option linter.unusedVariables false
theorem zDI {l : List Int} {a b v : Int} (ha0 : 0 ≤ a) (ha1 : a < l.length) (hb : 0 ≤ b) : rd (l.set a.toNat v) b = if b = a then v else rd l b := by
 unfold rd
 by_cases e : b = a
 rotate_left
 next =>
  rw [if_neg e]
  have : a.toNat ≠ b.toNat := by omega
  simp [List.getD_eq_getElem?_getD, List.getElem?_set_ne this]
 subst e
 rw [if_pos rfl]
 have : b.toNat < l.length := by omega
 simp [List.getD_eq_getElem?_getD, this]
theorem zEL (l : List Int) (k : Int) (i : Int) (h0 : 0 ≤ i) (h1 : i < l.length) : rd (l ++ [k]) i = rd l i := by
 unfold rd
 simp only [List.getD_eq_getElem?_getD]
 rw [List.getElem?_append_left (by omega)]
theorem zAO (l : List Int) (k : Int) : rd (l ++ [k]) (l.length : Int) = k := by
 rw [zBK _ _ (by simp)]; simp
theorem zDJ {l : List Int} {i : Int} (h0 : 0 ≤ i) (h1 : i < l.length) : rd l i ∈ l := by
 obtain ⟨n, rfl⟩ := Int.eq_ofNat_of_zero_le h0
 rw [zBK l n (by omega)]
 exact List.getElem_mem _
def uc : List Int → Nat
 | [] => 0
 | x :: xs => (if x < 0 then 1 else 0) + uc xs
theorem uc_le (l : List Int) : uc l ≤ l.length := by
 induction l with
 | nil => simp [uc]
 | cons x xs ih => simp only [uc, List.length_cons]; split <;> omega
theorem zDK : ∀ (l : List Int) (n : Nat) (v : Int), n < l.length → l.getD n 0 < 0 → 0 ≤ v → uc (l.set n v) + 1 = uc l
 | [], n, v, h, _, _ => by simp at h
 | x :: xs, 0, v, _, hz, hv => by
  have hx : x < 0 := by simpa using hz
  have h2 : ¬ v < 0 := by omega
  simp [uc, hx, h2]; omega
 | x :: xs, n + 1, v, h, hz, hv => by
  have := zDK xs n v (by simpa using h) (by simpa using hz) hv
  simp only [ycy, uc]; omega
section
variable {t : Tri}
structure BI (t : Tri) (U : Int → Int) (out R : List Int) : Prop where
 len : out.length = t.length
 val : ∀ x : Int, 0 ≤ x → x < t.length → rd out x = -1 ∨ (0 ≤ rd out x ∧ rd out x < R.length)
 rng : ∀ v : Int, 0 ≤ v → v < R.length → 0 ≤ rd R v ∧ rd R v < t.length ∧ rd out (rd R v) = v
 same : ∀ x : Int, 0 ≤ x → x < t.length → 0 ≤ rd out x → U x = U (rd R (rd out x))
 first : ∀ x : Int, 0 ≤ x → x < t.length → 0 ≤ rd out x → rd R (rd out x) ≤ x
 incr : ∀ v w : Int, 0 ≤ v → v < w → w < R.length → rd R v < rd R w
theorem BI.put {U : Int → Int} {out R : List Int} (h : BI t U out R) {b v : Int} (hb0 : 0 ≤ b) (hb1 : b < t.length) (hb : rd out b < 0) (hv0 : 0 ≤ v) (hv1 : v < R.length) (hU : U b = U (rd R v)) (hr : rd R v ≤ b) : BI t U (out.set b.toNat v) R := by
 have hl := h.len
 have g : ∀ x : Int, 0 ≤ x → rd (out.set b.toNat v) x = if x = b then v else rd out x := fun x h0 => zDI hb0 (by omega) h0
 refine ⟨by rw [List.length_set]; exact hl, fun x h0 h1 => ?_, fun w h0 h1 => ?_, fun x h0 h1 hx => ?_, fun x h0 h1 hx => ?_, h.incr⟩
 next =>
  rw [g x h0]; split
  next =>
   exact .inr ⟨hv0, hv1⟩
  next =>
   exact h.val x h0 h1
 next =>
  obtain ⟨a0, a1, a2⟩ := h.rng w h0 h1
  refine ⟨a0, a1, ?_⟩
  rw [g _ a0, if_neg (fun e => by rw [e] at a2; omega)]; exact a2
 next =>
  rw [g x h0] at hx ⊢
  split
  next =>
   rename_i e; rw [e]; exact hU
  next =>
   rename_i e; rw [if_neg e] at hx; exact h.same x h0 h1 hx
 next =>
  rw [g x h0] at hx ⊢
  split
  next =>
   rename_i e; rw [e]; exact hr
  next =>
   rename_i e; rw [if_neg e] at hx; exact h.first x h0 h1 hx
theorem BI.root {U : Int → Int} {out R : List Int} (h : BI t U out R) {a : Int} (ha0 : 0 ≤ a) (ha1 : a < t.length) (ha : rd out a < 0) (hlt : ∀ v : Int, 0 ≤ v → v < R.length → rd R v < a) : BI t U (out.set a.toNat R.length) (R ++ [a]) := by
 have hl := h.len
 have g : ∀ x : Int, 0 ≤ x → rd (out.set a.toNat (R.length : Int)) x = if x = a then (R.length : Int) else rd out x := fun x h0 => zDI ha0 (by omega) h0
 have hR : (R ++ [a]).length = R.length + 1 := by simp
 have gR : ∀ v : Int, 0 ≤ v → v < R.length → rd (R ++ [a]) v = rd R v := fun v h0 h1 => zEL R a v h0 h1
 refine ⟨by rw [List.length_set]; exact hl, fun x h0 h1 => ?_, fun w h0 h1 => ?_, fun x h0 h1 hx => ?_, fun x h0 h1 hx => ?_, fun v w h0 h1 h2 => ?_⟩
 next =>
  rw [g x h0]; split
  next =>
   exact .inr ⟨by omega, by omega⟩
  next =>
   rcases h.val x h0 h1 with e | ⟨e1, e2⟩
   next =>
    exact .inl e
   next =>
    exact .inr ⟨e1, by omega⟩
 next =>
  by_cases hw : w < R.length
  rotate_left
  next =>
   obtain rfl : w = (R.length : Int) := by omega
   rw [zAO]
   exact ⟨ha0, ha1, by rw [g a ha0, if_pos rfl]⟩
  obtain ⟨a0, a1, a2⟩ := h.rng w h0 hw
  rw [gR w h0 hw]
  refine ⟨a0, a1, ?_⟩
  rw [g _ a0, if_neg (fun e => by rw [e] at a2; omega)]; exact a2
 next =>
  rw [g x h0] at hx ⊢
  split
  next =>
   rename_i e; rw [e, zAO]
  next =>
   rename_i e
   rw [if_neg e] at hx
   have := (h.val x h0 h1).resolve_left (by omega)
   rw [gR _ this.1 this.2]; exact h.same x h0 h1 hx
 next =>
  rw [g x h0] at hx ⊢
  split
  next =>
   rename_i e; rw [e, zAO]; omega
  next =>
   rename_i e
   rw [if_neg e] at hx
   have := (h.val x h0 h1).resolve_left (by omega)
   rw [gR _ this.1 this.2]; exact h.first x h0 h1 hx
 next =>
  by_cases hw : w < R.length
  next =>
   rw [gR v h0 (by omega), gR w (by omega) hw]; exact h.incr v w h0 h1 hw
  next =>
   obtain rfl : w = (R.length : Int) := by omega
   rw [gR v h0 h1, zAO]; exact hlt v h0 h1
def CL (t : Tri) (out : List Int) (P : Int → Prop) : Prop := ∀ x : Int, 0 ≤ x → x < t.length → 0 ≤ rd out x → ¬ P x → ∀ g : Int, 0 ≤ g → g ≤ 3 → 0 ≤ (fc t x g).f0 → rd out (fc t x g).f0 = rd out x
def zA1 (t : Tri) (U : Int → Int) : Prop := ∀ x g : Int, 0 ≤ x → x < t.length → 0 ≤ g → g ≤ 3 → 0 ≤ (fc t x g).f0 → U x = U (fc t x g).f0
theorem zDL (h : QU t = true) {a f : Int} (h0 : 0 ≤ a) (h1 : a < t.length) (hf0 : 0 ≤ f) (hf1 : f ≤ 3) (hb : 0 ≤ (fc t a f).f0) : (fc t a f).f0 < t.length ∧ ∃ g : Int, 0 ≤ g ∧ g ≤ 3 ∧ (fc t (fc t a f).f0 g).f0 = a := by
 rcases zBS h h0 h1 hf0 hf1 with ⟨e, _⟩ | ⟨e, e2, _⟩
 next =>
  omega
 next =>
  have hd := zB6 e.2.2.1 e.2.2.2 hf0 hf1
  exact ⟨e.2.1, _, hd.1, hd.2, e2⟩
theorem zDl (qu e : List Int) (i : Int) (h0 : 0 ≤ i) (h1 : i < qu.length) (x : Int) : x ∈ (qu ++ e).drop i.toNat ↔ x ∈ qu.drop i.toNat ∨ x ∈ e := by
 rw [List.drop_append_of_le_length (by omega), List.mem_append]
structure SI (t : Tri) (U : Int → Int) (out R qu : List Int) (N a i : Int) : Prop where
 bi : BI t U out R
 lab : N + 1 = R.length
 lab0 : 0 ≤ N
 root : rd R N = a
 queue : ∀ y ∈ qu, 0 ≤ y ∧ y < t.length ∧ rd out y = N
 low : ∀ x : Int, 0 ≤ x → x < a → 0 ≤ rd out x
 cl : CL t out (fun x => x ∈ qu.drop i.toNat)
 small : uc out + qu.length ≤ 100
theorem SI.visit (h : QU t = true) {U : Int → Int} (hU : zA1 t U) {out R qu : List Int} {N a i f : Int} (hS : SI t U out R qu N a i) (hi0 : 0 ≤ i) (hi1 : i < qu.length) (hf0 : 0 ≤ f) (hf1 : f ≤ 3) (hb : 0 ≤ (fc t (rd qu i) f).f0) (hz : rd out (fc t (rd qu i) f).f0 < 0) :
 SI t U (out.set (fc t (rd qu i) f).f0.toNat N) R (qu ++ [(fc t (rd qu i) f).f0]) N a i ∧ uc (out.set (fc t (rd qu i) f).f0.toNat N) + 1 = uc out ∧ (∀ x : Int, 0 ≤ x → 0 ≤ rd out x → rd (out.set (fc t (rd qu i) f).f0.toNat N) x = rd out x) ∧ rd (out.set (fc t (rd qu i) f).f0.toNat N) (fc t (rd qu i) f).f0 = N := by
 obtain ⟨q0, q1, q2⟩ := hS.queue _ (zDJ hi0 hi1)
 obtain ⟨b1, g, g0, g1, gb⟩ := zDL h q0 q1 hf0 hf1 hb
 have hl := hS.bi.len
 have hlab := hS.lab
 have hlab0 := hS.lab0
 have hm := hU _ f q0 q1 hf0 hf1 hb
 generalize (fc t (rd qu i) f).f0 = b at *
 have gs : ∀ x : Int, 0 ≤ x → rd (out.set b.toNat N) x = if x = b then N else rd out x := fun x h0 => zDI hb (by omega) h0
 have hsame := hS.bi.same _ q0 q1 (by omega)
 rw [q2] at hsame
 have hab : a ≤ b := Classical.byContradiction fun hc => by have := hS.low b hb (by omega); omega
 have hkeep : ∀ x : Int, 0 ≤ x → 0 ≤ rd out x → rd (out.set b.toNat N) x = rd out x := fun x h0 hx => by
  rw [gs x h0, if_neg (fun e => by rw [e] at hx; omega)]
 have hself : rd (out.set b.toNat N) b = N := by rw [gs b hb, if_pos rfl]
 have huc := zDK out b.toNat N (by omega) hz hlab0
 refine ⟨⟨hS.bi.put hb b1 hz hlab0 (by omega) (hm.symm.trans hsame) (by rw [hS.root]; exact hab), hlab, hlab0, hS.root, fun y hy => ?_, fun x h0 h1 => ?_, fun x h0 h1 hx hP g' g0' g1' hg => ?_, ?_⟩, huc, hkeep, hself⟩
 next =>
  rcases List.mem_append.1 hy with hy | hy
  next =>
   obtain ⟨a0, a1, a2⟩ := hS.queue y hy
   exact ⟨a0, a1, by rw [hkeep y a0 (by omega)]; exact a2⟩
  next =>
   rw [List.mem_singleton.1 hy]; exact ⟨hb, b1, hself⟩
 next =>
  have := hS.low x h0 h1
  rw [hkeep x h0 this]; exact this
 next =>
  have hP' := fun hh => hP ((zDl qu [b] i hi0 hi1 x).2 hh)
  have hxb : x ≠ b := fun e => hP' (.inr (by rw [e]; exact List.mem_singleton_self _))
  rw [gs x h0, if_neg hxb] at hx ⊢
  have := hS.cl x h0 h1 hx (fun hh => hP' (.inl hh)) g' g0' g1' hg
  rw [hkeep _ hg (by omega)]; exact this
 next =>
  have := hS.small
  rw [List.length_append, List.length_singleton]; omega
theorem zEM (k : Nat) (out : List Int) (N a : Int) (qu : List Int) (i f b : Int) (h4 : f < 4) (h0 : 0 ≤ i) (h1 : i < (qu.length : Int)) (q0 : 0 ≤ rd qu i) (q1 : rd qu i < (t.length : Int)) (f0 : 0 ≤ f) (fl : f < ((zG t (rd qu i)).length : Int)) (e : (fc t (rd qu i) f).f0 = b) :
 zX.l3 (k + 1) out N a qu i f t = (if b ≥ 0 then (if 0 ≤ b then (if b < (out.length : Int) then (if (rd out b) < 0 then (if qu.length < 17592186044416 then (zX.l3 k (out.set ((b : Int)).toNat N) N a (qu ++ [b]) i (wrap64 (f + 1)) t) else (none)) else (zX.l3 k out N a qu i (wrap64 (f + 1)) t)) else (none)) else (none)) else (zX.l3 k out N a qu i (wrap64 (f + 1)) t)) := by
 subst e
 rw [zX.l3, if_pos h4, if_pos h0, if_pos h1, if_pos q0, if_pos q1, if_pos f0, if_pos fl]
theorem l3_new {out qu : List Int} {N a i f b : Int} (h4 : f < 4) (h0 : 0 ≤ i) (h1 : i < (qu.length : Int)) (q0 : 0 ≤ rd qu i) (q1 : rd qu i < (t.length : Int)) (f0 : 0 ≤ f) (fl : f < ((zG t (rd qu i)).length : Int)) (e : (fc t (rd qu i) f).f0 = b) (hb : 0 ≤ b) (hb1 : b < (out.length : Int)) (hz : rd out b < 0) (hs : qu.length < 17592186044416) {r : List Int}
 (hR : Ev (fun k => zX.l3 k (out.set b.toNat N) N a (qu ++ [b]) i (wrap64 (f + 1)) t) r) : Ev (fun k => zX.l3 k out N a qu i f t) r :=
 qg (fun k => by rw [zEM k out N a qu i f b h4 h0 h1 q0 q1 f0 fl e, if_pos hb, if_pos hb, if_pos hb1, if_pos hz, if_pos hs]) hR
theorem l3_old {out qu : List Int} {N a i f b : Int} (h4 : f < 4) (h0 : 0 ≤ i) (h1 : i < (qu.length : Int)) (q0 : 0 ≤ rd qu i) (q1 : rd qu i < (t.length : Int)) (f0 : 0 ≤ f) (fl : f < ((zG t (rd qu i)).length : Int)) (e : (fc t (rd qu i) f).f0 = b) (hb : 0 ≤ b) (hb1 : b < (out.length : Int)) (hz : ¬ rd out b < 0) {r : List Int}
 (hR : Ev (fun k => zX.l3 k out N a qu i (wrap64 (f + 1)) t) r) : Ev (fun k => zX.l3 k out N a qu i f t) r :=
 qg (fun k => by rw [zEM k out N a qu i f b h4 h0 h1 q0 q1 f0 fl e, if_pos hb, if_pos hb, if_pos hb1, if_neg hz]) hR
theorem zEN {out qu : List Int} {N a i f b : Int} (h4 : f < 4) (h0 : 0 ≤ i) (h1 : i < (qu.length : Int)) (q0 : 0 ≤ rd qu i) (q1 : rd qu i < (t.length : Int)) (f0 : 0 ≤ f) (fl : f < ((zG t (rd qu i)).length : Int)) (e : (fc t (rd qu i) f).f0 = b) (hb : ¬ b ≥ 0) {r : List Int}
 (hR : Ev (fun k => zX.l3 k out N a qu i (wrap64 (f + 1)) t) r) : Ev (fun k => zX.l3 k out N a qu i f t) r :=
 qg (fun k => by rw [zEM k out N a qu i f b h4 h0 h1 q0 q1 f0 fl e, if_neg hb]) hR
theorem zDm (h : QU t = true) {U : Int → Int} (hU : zA1 t U) {R : List Int} {N a i : Int} (hi0 : 0 ≤ i) : ∀ (d f : Nat) (out qu : List Int), f + d = 4 → SI t U out R qu N a i → i < qu.length →
 (∀ g : Int, 0 ≤ g → g < f → 0 ≤ (fc t (rd qu i) g).f0 → rd out (fc t (rd qu i) g).f0 = N) →
 ∃ out' qu' : List Int, SI t U out' R qu' N a i ∧ i < qu'.length ∧ uc out' + qu'.length = uc out + qu.length ∧ (∀ g : Int, 0 ≤ g → g ≤ 3 → 0 ≤ (fc t (rd qu' i) g).f0 → rd out' (fc t (rd qu' i) g).f0 = N) ∧
  ∀ r : List Int, Ev (fun k => zX.l2 k out' N a qu' (i + 1) t) r → Ev (fun k => zX.l3 k out N a qu i (f : Int) t) r
 | 0, f, out, qu, hf, hS, hi1, hg => by
  obtain rfl : f = 4 := by omega
  have hs := hS.small
  refine ⟨out, qu, hS, hi1, rfl, fun g g0 g1 hh => hg g g0 (by omega) hh, fun r hr => ?_⟩
  refine qg (fun k => by rw [zX.l3, if_neg (by omega), QE (show -9223372036854775808 ≤ i + 1 by omega) (by omega)]) ?_
  exact hr
 | d + 1, f, out, qu, hf, hS, hi1, hg => by
  have f4 : (f : Int) < 4 := by omega
  have f0 : (0 : Int) ≤ (f : Int) := by omega
  have f3 : (f : Int) ≤ 3 := by omega
  have hw : wrap64 ((f : Int) + 1) = ((f + 1 : Nat) : Int) := Zu (by omega)
  have hd : (f + 1) + d = 4 := by omega
  have hqs : qu.length < 17592186044416 := by have hs := hS.small; omega
  have q0 := (hS.queue _ (zDJ hi0 hi1)).1
  have q1 := (hS.queue _ (zDJ hi0 hi1)).2.1
  have Q2 := zA.mk (hS.queue _ (zDJ hi0 hi1)).2.2
  have FL := zA.mk (show (f : Int) < ((zG t (rd qu i)).length : Int) by rw [zDH h q0 q1]; exact f4)
  have hl := hS.bi.len
  have hlab0 := hS.lab0
  have hgl : ∀ g : Int, g < ((f + 1 : Nat) : Int) → ¬ g = (f : Int) → g < (f : Int) := fun g h1 h2 => by clear q0 q1 hl hlab0 hqs; omega
  obtain ⟨b, HBD⟩ : ∃ b : Int, zA ((fc t (rd qu i) (f : Int)).f0 = b) := ⟨_, ⟨rfl⟩⟩
  by_cases hb : 0 ≤ b
  rotate_left
  next =>
   obtain ⟨out', qu', k1, k2, k3, k4, k5⟩ := zDm h hU hi0 d (f + 1) out qu hd hS hi1 (fun g g0 g1 hh => by
    by_cases e : g = (f : Int)
    next =>
     rw [e, HBD.out] at hh; exact absurd hh hb
    next =>
     exact hg g g0 (hgl g g1 e) hh)
   exact ⟨out', qu', k1, k2, k3, k4, fun r hR => zEN f4 hi0 hi1 q0 q1 f0 FL.out HBD.out hb (by rw [hw]; exact k5 r hR)⟩
  obtain ⟨b1, g', g0', g1', gb'⟩ := zDL h q0 q1 f0 f3 (by rw [HBD.out]; exact hb)
  rw [HBD.out] at b1 gb'
  have GB := zA.mk gb'
  clear gb'
  by_cases hz : rd out b < 0
  rotate_left
  next =>
   have hz0 : 0 ≤ rd out b := Int.not_lt.1 hz
   have HZ := zA.mk hz
   have HZ0 := zA.mk hz0
   clear hz hz0
   obtain ⟨out', qu', k1, k2, k3, k4, k5⟩ := zDm h hU hi0 d (f + 1) out qu hd hS hi1 (fun g g0 g1 hh => by
    by_cases e : g = (f : Int)
    next =>
     rw [e, HBD.out]
     refine Classical.byContradiction fun hne => ?_
     have hnq : ¬ b ∈ qu.drop i.toNat := fun hm => hne (hS.queue _ (List.mem_of_mem_drop hm)).2.2
     have := hS.cl _ hb b1 HZ0.out hnq g' g0' g1' (by rw [GB.out]; exact q0)
     rw [GB.out, Q2.out] at this
     exact hne this.symm
    next =>
     exact hg g g0 (hgl g g1 e) hh)
   exact ⟨out', qu', k1, k2, k3, k4, fun r hR => l3_old f4 hi0 hi1 q0 q1 f0 FL.out HBD.out hb (by rw [hl]; exact b1) HZ.out (by rw [hw]; exact k5 r hR)⟩
  obtain ⟨s1, s2, s3, s4⟩ := hS.visit h hU hi0 hi1 f0 f3 (by rw [HBD.out]; exact hb) (by rw [HBD.out]; exact hz)
  rw [HBD.out] at s1 s2 s3 s4
  have S4 := zA.mk s4
  have HZ := zA.mk hz
  clear s4 hz
  have hq1 : i < ((qu ++ [b]).length : Int) := by rw [List.length_append, List.length_singleton]; clear s1 s2 s3 q0 q1 hl hlab0 hw; omega
  have E9 := zA.mk (show rd (qu ++ [b]) i = rd qu i from zEL qu _ i hi0 hi1)
  obtain ⟨out', qu', k1, k2, k3, k4, k5⟩ := zDm h hU hi0 d (f + 1) _ _ hd s1 hq1 (fun g g0 g1 hh => by
   rw [E9.out] at hh ⊢
   by_cases e : g = (f : Int)
   next =>
    rw [e, HBD.out]; exact S4.out
   next =>
    have := hg g g0 (hgl g g1 e) hh
    rw [s3 _ hh (by rw [this]; exact hlab0)]; exact this)
  refine ⟨out', qu', k1, k2, by rw [k3, List.length_append, List.length_singleton]; clear k1 k2 k3 k4 k5 q0 q1 hl hlab0 hq1; omega, k4, fun r hR => ?_⟩
  exact l3_new f4 hi0 hi1 q0 q1 f0 FL.out HBD.out hb (by rw [hl]; exact b1) HZ.out hqs (by rw [hw]; exact k5 r hR)
theorem zDM (h : QU t = true) {U : Int → Int} (hU : zA1 t U) {R : List Int} {N a : Int} : ∀ (m : Nat) (out qu : List Int) (i : Int), 0 ≤ i → SI t U out R qu N a i → (uc out + qu.length : Int) - i < m →
 ∃ out' : List Int, BI t U out' R ∧ (∀ x : Int, 0 ≤ x → x < a → 0 ≤ rd out' x) ∧ CL t out' (fun _ => False) ∧ ∀ r : List Int, Ev (fun k => zX.l1 k out' (N + 1) (a + 1) t) r → Ev (fun k => zX.l2 k out N a qu i t) r
 | m, out, qu, i, hi0, hS, hm => by
  have hs := hS.small
  have h8 := (Zq h).1
  have hlab := hS.lab
  have hlab0 := hS.lab0
  by_cases hi1 : i < (qu.length : Int)
  next =>
   cases m with
   | zero => omega
   | succ m =>
    obtain ⟨out1, qu1, k1, k2, k3, k4, k5⟩ := zDm h hU hi0 4 0 out qu (by omega) hS hi1 (fun g g0 g1 => by omega)
    obtain ⟨q0, q1, q2⟩ := k1.queue _ (zDJ hi0 k2)
    obtain ⟨out', j1, j2, j3, j4⟩ := zDM h hU m out1 qu1 (i + 1) (by omega) ⟨k1.bi, k1.lab, k1.lab0, k1.root, k1.queue, k1.low, fun x h0 h1 hx hP g g0 g1 hg => by
     by_cases e : x = rd qu1 i
     next =>
      subst e
      rw [q2]; exact k4 g g0 g1 hg
     next =>
      refine k1.cl x h0 h1 hx (fun hd => hP ?_) g g0 g1 hg
      have hdrop : qu1.drop i.toNat = rd qu1 i :: qu1.drop (i + 1).toNat := by
       obtain ⟨n, rfl⟩ := Int.eq_ofNat_of_zero_le hi0
       rw [Int.toNat_natCast, List.drop_eq_getElem_cons (by omega), zBK qu1 n (by omega)]
       rfl
      rw [hdrop] at hd
      exact (List.mem_cons.1 hd).resolve_left e, k1.small⟩ (by omega)
    exact ⟨out', j1, j2, j3, fun r hr => qg (f := fun k => zX.l3 k out N a qu i ((0 : Nat) : Int) t) (fun k => by rw [zX.l2, if_pos hi1]; rfl) (k5 r (j4 r hr))⟩
  next =>
   have hR : R.length ≤ 1000 := by
    refine Classical.byContradiction fun hc => ?_
    have hb := hS.bi
    have : ∀ v : Nat, v < R.length → (v : Int) ≤ rd R (v : Int) := by
     intro v
     induction v with
     | zero => intro hv; exact (hb.rng 0 (by omega) (by omega)).1
     | succ v ih =>
      intro hv
      have h1 := ih (by omega)
      have h2 := hb.incr (v : Int) ((v + 1 : Nat) : Int) (by omega) (by omega) (by omega)
      omega
    have h1 := this 100 (by omega)
    have h2 := (hb.rng ((100 : Nat) : Int) (by omega) (by omega)).2.1
    omega
   have hra := (hS.bi.rng N hlab0 (by omega)).2.1
   have hra0 := (hS.bi.rng N hlab0 (by omega)).1
   rw [hS.root] at hra hra0
   refine ⟨out, hS.bi, hS.low, fun x h0 h1 hx _ g g0 g1 hg => hS.cl x h0 h1 hx (fun hd => ?_) g g0 g1 hg, fun r hr => ?_⟩
   next =>
    rw [List.drop_eq_nil_of_le (by omega)] at hd
    cases hd
   next =>
    exact qg (fun k => by rw [zX.l2, if_neg hi1, QE (show -9223372036854775808 ≤ N + 1 by omega) (by omega), QE (show -9223372036854775808 ≤ a + 1 by omega) (by omega)]) hr
theorem zEO (h : QU t = true) {U : Int → Int} (hU : zA1 t U) : ∀ (d : Nat) (a : Int) (out R : List Int), 0 ≤ a → a + d = t.length → BI t U out R → (∀ x : Int, 0 ≤ x → x < a → 0 ≤ rd out x) → CL t out (fun _ => False) → (∀ v : Int, 0 ≤ v → v < R.length → rd R v < a) →
 ∃ out' R' : List Int, Ev (fun k => zX.l1 k out (R.length : Int) a t) out' ∧ BI t U out' R' ∧ (∀ x : Int, 0 ≤ x → x < t.length → 0 ≤ rd out' x) ∧ CL t out' (fun _ => False)
 | 0, a, out, R, ha, hd, hB, hlow, hC, hR => ⟨out, R, qg (f := fun _ => some out) (fun k => by rw [zX.l1, qF.f, yfy, if_neg (by omega)]) (Ev.now _), hB, fun x h0 h1 => hlow x h0 (by omega), hC⟩
 | d + 1, a, out, R, ha, hd, hB, hlow, hC, hR => by
  have h8 := (Zq h).1
  have hl := hB.len
  by_cases hz : rd out a ≥ 0
  next =>
   obtain ⟨out', R', e1, e2, e3, e4⟩ := zEO h hU d (a + 1) out R (by omega) (by omega) hB (fun x h0 h1 => by
    by_cases e : x = a
    next =>
     rw [e]; exact hz
    next =>
     exact hlow x h0 (by omega)) hC (fun v h0 h1 => by have := hR v h0 h1; omega)
   exact ⟨out', R', qg (fun k => by rw [zX.l1, qF.f, yfy, if_pos (by omega), if_pos ha, if_pos (by omega), if_pos hz, QE (show -9223372036854775808 ≤ a + 1 by omega) (by omega)]) e1, e2, e3, e4⟩
  next =>
   have hB1 := hB.root ha (by omega) (by omega) hR
   have gs : ∀ x : Int, 0 ≤ x → rd (out.set a.toNat (R.length : Int)) x = if x = a then (R.length : Int) else rd out x := fun x h0 => zDI ha (by omega) h0
   have huc := zDK out a.toNat (R.length : Int) (by omega) (by
    have : rd out a < 0 := by omega
    exact this) (by omega)
   have hul := uc_le out
   have hS : SI t U (out.set a.toNat (R.length : Int)) (R ++ [a]) [a] (R.length : Int) a 0 := by
    refine ⟨hB1, by simp, by omega, zAO R a, fun y hy => ?_, fun x h0 h1 => ?_, fun x h0 h1 hx hP g g0 g1 hg => ?_, by simp; omega⟩
    next =>
     rw [List.mem_singleton.1 hy]; exact ⟨ha, by omega, by rw [gs a ha, if_pos rfl]⟩
    next =>
     rw [gs x h0, if_neg (by omega)]; exact hlow x h0 h1
    next =>
     have hxa : x ≠ a := fun e => hP (by rw [e]; exact List.mem_singleton_self _)
     rw [gs x h0, if_neg hxa] at hx ⊢
     have := hC x h0 h1 hx (fun hf => hf) g g0 g1 hg
     rw [gs _ hg, if_neg (fun e => by rw [e] at this; omega)]; exact this
   have hnext : ∀ out1 : List Int, BI t U out1 (R ++ [a]) → (∀ x : Int, 0 ≤ x → x < a → 0 ≤ rd out1 x) → CL t out1 (fun _ => False) → ∃ out' R' : List Int, Ev (fun k => zX.l1 k out1 ((R.length : Int) + 1) (a + 1) t) out' ∧ BI t U out' R' ∧ (∀ x : Int, 0 ≤ x → x < t.length → 0 ≤ rd out' x) ∧ CL t out' (fun _ => False) := fun out1 b1 b2 b3 => by
    have e9 : ((R ++ [a]).length : Int) = (R.length : Int) + 1 := by simp
    have hla := (b1.rng (R.length : Int) (by omega) (by omega)).2.2
    rw [zAO] at hla
    have := zEO h hU d (a + 1) out1 (R ++ [a]) (by omega) (by omega) b1 (fun x h0 h1 => by
     by_cases e : x = a
     next =>
      rw [e, hla]; omega
     next =>
      exact b2 x h0 (by omega)) b3 (fun v h0 h1 => by
     by_cases hv : v < R.length
     next =>
      rw [zEL R a v h0 hv]; have := hR v h0 hv; omega
     next =>
      obtain rfl : v = (R.length : Int) := by omega
      rw [zAO]; omega)
    rw [e9] at this
    exact this
   obtain ⟨out1, b1, b2, b3, hev⟩ := zDM h hU 200 (out.set a.toNat (R.length : Int)) [a] 0 (Int.le_refl 0) hS (by simp; omega)
   obtain ⟨out', R', e1, e2, e3, e4⟩ := hnext out1 b1 b2 b3
   exact ⟨out', R', qg (fun k => by rw [zX.l1, qF.f, yfy, if_pos (by omega), if_pos ha, if_pos (by omega), if_neg hz]) (hev _ e1), e2, e3, e4⟩
theorem zDN {U : Int → Int} {out R : List Int} (hB : BI t U out R) (hall : ∀ x : Int, 0 ≤ x → x < t.length → 0 ≤ rd out x) : ∀ (d i m : Nat), i + d = out.length → (∀ v : Int, 0 ≤ v → v < R.length → (rd R v < i ↔ v < m)) → QS m (out.drop i)
 | 0, i, m, hi, hm => by rw [List.drop_eq_nil_of_le (by omega)]; exact .nil m
 | d + 1, i, m, hi, hm => by
  have hlt : i < out.length := by omega
  have hl := hB.len
  have hg : rd out (i : Int) = out[i] := zBK out i hlt
  have h0 := hall (i : Int) (by omega) (by omega)
  have hv := (hB.val (i : Int) (by omega) (by omega)).resolve_left (by omega)
  have hf := hB.first (i : Int) (by omega) (by omega) h0
  rw [List.drop_eq_getElem_cons hlt]
  rw [hg] at h0 hv hf
  generalize out[i] = v at *
  by_cases hr : rd R v < i
  next =>
   refine .old h0 ((hm v h0 hv.2).1 hr) (zDN hB hall d (i + 1) m (by omega) (fun u u0 u1 => ?_))
   rw [← hm u u0 u1]
   constructor
   next =>
    intro hh
    refine Classical.byContradiction fun hc => ?_
    have e : rd R u = (i : Int) := by omega
    have := (hB.rng u u0 u1).2.2
    rw [e, hg] at this
    rw [this] at hr
    omega
   next =>
    intro hh; omega
  next =>
   have er : rd R v = (i : Int) := by omega
   have ev : v = (m : Int) := by
    have h1 : ¬ v < m := fun hh => hr ((hm v h0 hv.2).2 hh)
    by_cases hz : v = 0
    next =>
     omega
    next =>
     have := hB.incr (v - 1) v (by omega) (by omega) hv.2
     have := (hm (v - 1) (by omega) (by omega)).1 (by omega)
     omega
   rw [ev]
   refine .new (zDN hB hall d (i + 1) (m + 1) (by omega) (fun u u0 u1 => ?_))
   have hmu := hm u u0 u1
   constructor
   next =>
    intro hh
    by_cases e : rd R u < i
    next =>
     have := hmu.1 e; omega
    next =>
     have e : rd R u = (i : Int) := by omega
     have := (hB.rng u u0 u1).2.2
     rw [e, hg] at this
     omega
   next =>
    intro hh
    by_cases e : u < m
    next =>
     have := hmu.2 e; omega
    next =>
     have : u = v := by omega
     rw [this, er]; omega
theorem zE4 (n : Nat) (hn : n ≤ 1000000) {r : List Int} : ∀ (d i : Nat) (out : List Int), i + d = n → out.length = n → (∀ x : Int, 0 ≤ x → x < i → rd out x = -1) → (∀ out' : List Int, out'.length = n → (∀ x : Int, 0 ≤ x → x < n → rd out' x = -1) → Ev (fun k => zX.l1 k out' 0 0 t) r) → Ev (fun k => zX.l0 k out (i : Int) t) r
 | 0, i, out, hi, hl, hv, hk => by
  refine qg (fun k => by rw [zX.l0, if_neg (by omega)]) ?_
  exact hk out hl (fun x h0 h1 => hv x h0 (by omega))
 | d + 1, i, out, hi, hl, hv, hk => by
  refine qg (fun k => by rw [zX.l0, if_pos (by omega), if_pos (by omega), Zu (by omega)]) ?_
  refine zE4 n hn d (i + 1) _ (by omega) (by simp [hl]) (fun x h0 h1 => ?_) hk
  rw [zDI (by omega) (by omega) h0]
  split
  next =>
   rfl
  next =>
   exact hv x h0 (by omega)
theorem zDn (h : QU t = true) {U : Int → Int} (hU : zA1 t U) : ∃ out : List Int, Ev (fun k => zX.f k t) out ∧ out.length = t.length ∧ QS 0 out ∧ (∀ x g : Int, 0 ≤ x → x < t.length → 0 ≤ g → g ≤ 3 → 0 ≤ (fc t x g).f0 → rd out (fc t x g).f0 = rd out x) ∧
 (∀ x y : Int, 0 ≤ x → x < t.length → 0 ≤ y → y < t.length → rd out x = rd out y → U x = U y) := by
 have h8 := (Zq h).1
 have hinit : ∀ out0 : List Int, out0.length = t.length → (∀ x : Int, 0 ≤ x → x < t.length → rd out0 x = -1) → ∃ out R : List Int, Ev (fun k => zX.l1 k out0 0 0 t) out ∧ BI t U out R ∧ (∀ x : Int, 0 ≤ x → x < t.length → 0 ≤ rd out x) ∧ CL t out (fun _ => False) := fun out0 hl hv => by
  have := zEO h hU t.length 0 out0 [] (by omega) (by omega) ⟨hl, fun x h0 h1 => .inl (hv x h0 h1), fun v h0 h1 => by simp at h1; omega, fun x h0 h1 hx => by rw [hv x h0 h1] at hx; omega, fun x h0 h1 hx => by rw [hv x h0 h1] at hx; omega, fun v w h0 h1 h2 => by simp at h2; omega⟩ (fun x h0 h1 => by omega) (fun x h0 h1 hx => by rw [hv x h0 h1] at hx; omega) (fun v h0 h1 => by simp at h1; omega)
  exact this
 have hrep : ∃ out0 : List Int, out0.length = t.length ∧ (∀ x : Int, 0 ≤ x → x < t.length → rd out0 x = -1) ∧ ∀ r, Ev (fun k => zX.l1 k out0 0 0 t) r → Ev (fun k => zX.f k t) r := by
  refine ⟨List.replicate t.length (-1), by simp, fun x h0 h1 => ?_, fun r hr => ?_⟩
  next =>
   obtain ⟨n, rfl⟩ := Int.eq_ofNat_of_zero_le h0
   rw [zBK _ n (by simp; omega)]; simp
  next =>
   refine qh (by omega) (qh (by omega) ?_)
   rw [Int.toNat_natCast]
   refine zE4 (t := t) t.length (by omega) t.length 0 (List.replicate t.length 0) (by omega) (by simp) (fun x h0 h1 => by omega) (fun out' hl hv => ?_)
   have e : out' = List.replicate t.length (-1) := by
    refine List.ext_getElem (by simp [hl]) (fun j h1 h2 => ?_)
    have := hv (j : Int) (by omega) (by omega)
    rw [zBK out' j h1] at this
    rw [this]; simp
   rw [e]; exact hr
 obtain ⟨out0, hl0, hv0, hk⟩ := hrep
 obtain ⟨out, R, e1, e2, e3, e4⟩ := hinit out0 hl0 hv0
 refine ⟨out, hk out e1, e2.len, ?_, fun x g h0 h1 g0 g1 hg => e4 x h0 h1 (e3 x h0 h1) (fun hf => hf) g g0 g1 hg, fun x y x0 x1 y0 y1 he => ?_⟩
 next =>
  have := zDN e2 e3 out.length 0 0 (by omega) (fun v v0 v1 => by have := (e2.rng v v0 v1).1; omega)
  rwa [List.drop_zero] at this
 next =>
  rw [e2.same x x0 x1 (e3 x x0 x1), e2.same y y0 y1 (e3 y y0 y1), he]
end
theorem zDO (s : List Int) (i k x : Int) (h0 : 0 ≤ x) (h1 : x < s.length) : rd (uni s i k) x = if rd s x = rd s k then rd s i else rd s x := by
  obtain ⟨n, rfl⟩ := Int.eq_ofNat_of_zero_le h0
  exact zED s i k n (by omega)
theorem zEP {x a g : Int} (g0 : 0 ≤ g) (g1 : g ≤ 3) (h : x < a + 1 ∨ (x = a + 1 ∧ g < 0)) : x < a ∨ (x = a ∧ g < 4) := by omega
theorem zDP {x a g f : Int} (h : x < a ∨ (x = a ∧ g < f + 1)) : (x < a ∨ (x = a ∧ g < f)) ∨ (x = a ∧ g = f) := by omega
section
variable {t : Tri}
structure MI (t : Tri) (m : List Int) : Prop where
  len : m.length = t.length
  rng : ∀ x : Int, 0 ≤ x → x < t.length → 0 ≤ rd m x ∧ rd m x < t.length
  fine : ∀ V : Int → Int, zA1 t V → ∀ x y : Int, 0 ≤ x → x < t.length → 0 ≤ y → y < t.length → rd m x = rd m y → V x = V y
theorem MI.uni (h : QU t = true) {m : List Int} (hM : MI t m) {a f : Int} (a0 : 0 ≤ a) (a1 : a < t.length) (f0 : 0 ≤ f) (f1 : f ≤ 3) (hb : 0 ≤ (fc t a f).f0) : MI t (uni m a (fc t a f).f0) := by
  have b1 := (zDL h a0 a1 f0 f1 hb).1
  have hV : ∀ V : Int → Int, zA1 t V → V a = V (fc t a f).f0 := fun V hV => hV a f a0 a1 f0 f1 hb
  generalize (fc t a f).f0 = b at hb b1 hV ⊢
  have g : ∀ x : Int, 0 ≤ x → x < t.length → rd (Lib.uni m a b) x = if rd m x = rd m b then rd m a else rd m x := fun x x0 x1 => zDO m a b x x0 (by rw [hM.len]; exact x1)
  refine ⟨by rw [zCK]; exact hM.len, fun x x0 x1 => ?_, fun V hv x y x0 x1 y0 y1 he => ?_⟩
  · rw [g x x0 x1]; split
    · exact hM.rng a a0 a1
    · exact hM.rng x x0 x1
  · rw [g x x0 x1, g y y0 y1] at he
    have e := hV V hv
    have fx := hM.fine V hv x b x0 x1 hb b1
    have fy := hM.fine V hv y b y0 y1 hb b1
    by_cases c1 : rd m x = rd m b
    · rw [if_pos c1] at he
      by_cases c2 : rd m y = rd m b
      · rw [fx c1, fy c2]
      · rw [if_neg c2] at he
        rw [fx c1, ← e]; exact hM.fine V hv a y a0 a1 y0 y1 he
    · rw [if_neg c1] at he
      by_cases c2 : rd m y = rd m b
      · rw [if_pos c2] at he
        rw [fy c2, ← e]; exact hM.fine V hv x a x0 x1 a0 a1 he
      · rw [if_neg c2] at he; exact hM.fine V hv x y x0 x1 y0 y1 he
def Dn (t : Tri) (m : List Int) (a f : Int) : Prop := ∀ x g : Int, 0 ≤ x → x < t.length → 0 ≤ g → g ≤ 3 → (x < a ∨ (x = a ∧ g < f)) → 0 ≤ (fc t x g).f0 → rd m x = rd m (fc t x g).f0
theorem zE5 (k : Nat) (m : List Int) (a f n : Int) (R : List qJ) (h4 : f < 4) (f0 : 0 ≤ f) (fl : f < (R.length : Int)) : zR.l1 (k + 1) m a t n a R 4 f = (if decide ((zK R f).f0 < 0) = true then (zR.l1 k m a t n a R 4 (wrap64 (f + 1))) else ((Ze.f m a ((zK R f).f0)).bind fun t113 => (zR.l1 k t113 a t n a R 4 (wrap64 (f + 1))))) := by
  rw [zR.l1, if_pos h4, if_pos f0, if_pos fl, qQ.f, yfy]
theorem zBl (h : QU t = true) {a : Int} (a0 : 0 ≤ a) (a1 : a < t.length) (hw1 : wrap64 (a + 1) = a + 1) : ∀ (d f : Nat) (m : List Int), f + d = 4 → MI t m → Dn t m a f →
    ∃ m' : List Int, MI t m' ∧ Dn t m' (a + 1) 0 ∧ ∀ r : List Int, Ev (fun k => zR.l0 k m' t (t.length : Int) (a + 1)) r → Ev (fun k => zR.l1 k m a t (t.length : Int) a (zG t a) 4 (f : Int)) r
  | 0, f, m, hf, hM, hD => by
    obtain rfl : f = 4 := by omega
    refine ⟨m, hM, fun x g x0 x1 g0 g1 hc hb => hD x g x0 x1 g0 g1 (zEP g0 g1 hc) hb, fun r hr => ?_⟩
    exact qg (fun k => by rw [zR.l1, if_neg (by omega), hw1]) hr
  | d + 1, f, m, hf, hM, hD => by
    have f4 : (f : Int) < 4 := by omega
    have f0 : (0 : Int) ≤ (f : Int) := by omega
    have f3 : (f : Int) ≤ 3 := by omega
    have hw : wrap64 ((f : Int) + 1) = ((f + 1 : Nat) : Int) := Zu (by omega)
    have hd : (f + 1) + d = 4 := by omega
    have ec : ((f + 1 : Nat) : Int) = (f : Int) + 1 := by omega
    have fl : (f : Int) < ((zG t a).length : Int) := by rw [zDH h a0 a1]; exact f4
    by_cases hb : (fc t a (f : Int)).f0 < 0
    · obtain ⟨m', k1, k2, k3⟩ := zBl h a0 a1 hw1 d (f + 1) m hd hM (fun x g x0 x1 g0 g1 hc hg => by
        rw [ec] at hc
        rcases zDP hc with hc | ⟨rfl, rfl⟩
        · exact hD x g x0 x1 g0 g1 hc hg
        · exact absurd hb (Int.not_lt.2 hg))
      exact ⟨m', k1, k2, fun r hr => qg (fun k => by rw [zE5 k m a f _ _ f4 f0 fl, if_pos (ygy hb), hw]) (k3 r hr)⟩
    · have hb0 : 0 ≤ (fc t a (f : Int)).f0 := Int.not_lt.1 hb
      have b1 := (zDL h a0 a1 f0 f3 hb0).1
      have hun : Ze.f m a (fc t a (f : Int)).f0 = some (uni m a (fc t a (f : Int)).f0) := by
        unfold Ze.f
        rw [if_pos ⟨a0, by rw [hM.len]; exact a1, hb0, by rw [hM.len]; exact b1⟩]
      obtain ⟨m', k1, k2, k3⟩ := zBl h a0 a1 hw1 d (f + 1) _ hd (hM.uni h a0 a1 f0 f3 hb0) (fun x g x0 x1 g0 g1 hc hg => by
        have y1 := (zDL h x0 x1 g0 g1 hg).1
        rw [zDO m a _ x x0 (by rw [hM.len]; exact x1), zDO m a _ _ hg (by rw [hM.len]; exact y1)]
        rw [ec] at hc
        rcases zDP hc with hc | ⟨e1, e2⟩
        · rw [hD x g x0 x1 g0 g1 hc hg]
        · rw [e1, e2, if_pos rfl]
          split <;> rfl)
      refine ⟨m', k1, k2, fun r hr => qg (f := fun k => zR.l1 k (uni m a (fc t a (f : Int)).f0) a t (t.length : Int) a (zG t a) 4 ((f + 1 : Nat) : Int)) (fun k => ?_) (k3 r hr)⟩
      rw [zE5 k m a f _ _ f4 f0 fl, if_neg (fun hc => hb (of_decide_eq_true hc)), hw]
      show (Ze.f m a (fc t a (f : Int)).f0).bind _ = _
      rw [hun, yfy]
theorem zDQ (h : QU t = true) (h8 : t.length ≤ 8) : ∀ (d : Nat) (a : Int) (m : List Int), 0 ≤ a → a + d = t.length → MI t m → Dn t m a 0 →
    ∃ m' : List Int, MI t m' ∧ Dn t m' t.length 0 ∧ Ev (fun k => zR.l0 k m t (t.length : Int) a) (zCt m')
  | 0, a, m, a0, hd, hM, hD => by
    obtain rfl : a = (t.length : Int) := by omega
    have hl := hM.len
    have hok : zCw m = true := by
      unfold zCw
      rw [Bool.and_eq_true, decide_eq_true_eq, List.all_eq_true]
      refine ⟨by omega, fun x hx => ygy ?_⟩
      obtain ⟨i, hi, rfl⟩ := List.getElem_of_mem hx
      have := hM.rng (i : Int) (by omega) (by omega)
      rw [zBK m i hi] at this
      generalize m[i] = v at *
      omega
    refine ⟨m, hM, hD, qg (f := fun _ => some (zCt m)) (fun k => ?_) (Ev.now _)⟩
    rw [zR.l0, if_neg (by omega), QB.f, if_pos hok, yfy]
  | d + 1, a, m, a0, hd, hM, hD => by
    have a1 : a < (t.length : Int) := by omega
    have hw1 : wrap64 (a + 1) = a + 1 := QE (by omega) (by omega)
    have hd1 : a + 1 + (d : Int) = t.length := by omega
    have a2 : 0 ≤ a + 1 := by omega
    obtain ⟨m1, k1, k2, k3⟩ := zBl h a0 a1 hw1 4 0 m rfl hM hD
    obtain ⟨m', j1, j2, j3⟩ := zDQ h h8 d (a + 1) m1 a2 hd1 k1 k2
    refine ⟨m', j1, j2, qg (f := fun k => zR.l1 k m a t (t.length : Int) a (zG t a) 4 ((0 : Nat) : Int)) (fun k => ?_) (k3 _ j3)⟩
    rw [zR.l0, if_pos a1, if_pos a0, if_pos a1, zDH h a0 a1]
    rfl
theorem zAP (n : Nat) (hn : n ≤ 1000) : ∀ (d i : Nat), i + d = n → Ev (fun k => qe.l0 k (Zv 0 i) (n : Int) (i : Int)) (Zv 0 n)
  | 0, i, hd => by
    obtain rfl : i = n := by omega
    exact qg (f := fun _ => some (Zv 0 i)) (fun k => by rw [qe.l0, if_neg (by omega)]) (Ev.now _)
  | d + 1, i, hd => by
    refine qg (fun k => ?_) (zAP n hn d (i + 1) (by omega))
    rw [qe.l0, if_pos (by omega), if_pos (by rw [JH]; omega), Zu (by omega), zAJ, Int.zero_add]
theorem zB9 (h : QU t = true) : ∃ m : List Int, MI t m ∧ zA1 t (rd m) ∧ Ev (fun k => zR.f k t) (zCt m) := by
  have h8 := (Zq h).1
  have hr0 : ∀ x : Int, 0 ≤ x → x < t.length → rd (Zv 0 t.length) x = x := fun x x0 x1 => by
    obtain ⟨n, rfl⟩ := Int.eq_ofNat_of_zero_le x0
    have := zCJ 0 t.length n (by omega)
    rw [Int.zero_add] at this
    exact this
  have h0 : MI t (Zv 0 t.length) := ⟨JH _ _, fun x x0 x1 => by rw [hr0 x x0 x1]; exact ⟨x0, x1⟩, fun V hv x y x0 x1 y0 y1 he => by rw [hr0 x x0 x1, hr0 y y0 y1] at he; rw [he]⟩
  obtain ⟨m, k1, k2, k3⟩ := zDQ h h8 t.length 0 (Zv 0 t.length) (Int.le_refl 0) (Int.zero_add _) h0 (fun x g x0 x1 g0 g1 hc hb => absurd hc (by omega))
  refine ⟨m, k1, fun x g x0 x1 g0 g1 hb => k2 x g x0 x1 g0 g1 (.inl x1) hb, ?_⟩
  exact Ev.bind (Ev.now (t.length : Int)) (Ev.bind (zAP t.length (by omega) t.length 0 (Nat.zero_add _)) k3)
end
theorem zCS {t : Tri} (h : QU t = true) : ∃ out : List Int, out.length = t.length ∧ QS 0 out ∧ Ev (fun k => zX.f k t) out ∧ Ev (fun k => zR.f k t) out ∧
    (∀ x g : Int, 0 ≤ x → x < t.length → 0 ≤ g → g ≤ 3 → 0 ≤ (fc t x g).f0 → rd out (fc t x g).f0 = rd out x) := by
  obtain ⟨m, m1, m2, m3⟩ := zB9 h
  obtain ⟨out, o1, o2, o3, o4, o5⟩ := zDn h m2
  have hker : Ker m out := by
    refine ⟨m1.len.trans o2.symm, fun i j hi hj => ?_⟩
    rw [m1.len] at hi hj
    have i1 : (i : Int) < t.length := Int.ofNat_lt.2 hi
    have j1 : (j : Int) < t.length := Int.ofNat_lt.2 hj
    have i0 : (0 : Int) ≤ i := Int.natCast_nonneg i
    have j0 : (0 : Int) ≤ j := Int.natCast_nonneg j
    constructor
    · exact fun e => m1.fine (rd out) (fun x g x0 x1 g0 g1 hb => (o4 x g x0 x1 g0 g1 hb).symm) i j i0 i1 j0 j1 e
    · exact fun e => o5 i j i0 i1 j0 j1 e
  rw [hker.zCt, zDd o3] at m3
  exact ⟨out, o2, o3, o1, m3, o4⟩
end Go.Proofs.Ytfnopcbicceeaaa.P
namespace Go.Proofs.Ytfnopcbicceeaaa.P
open Go.RowKit Go.Proofs.YtfnopcbicceeaaaW.PrintWords Go.Proofs.Ytfnopcbicceeaaa.Lib
set_option linter.unusedVariables false
set_option linter.unusedSimpArgs false
theorem zCA : ∀ (xs : List Int) (x : Int), x ≤ xs.foldl mx x ∧ ∀ y ∈ xs, y ≤ xs.foldl mx x
  | [], x => ⟨Int.le_refl _, fun y hy => by cases hy⟩
  | z :: zs, x => by
    have h0 : x ≤ mx x z ∧ z ≤ mx x z := by unfold mx; split <;> omega
    obtain ⟨k1, k2⟩ := zCA zs (mx x z)
    refine ⟨by show x ≤ zs.foldl mx (mx x z); omega, fun y hy => ?_⟩
    show y ≤ zs.foldl mx (mx x z)
    rcases List.mem_cons.1 hy with h | h
    · subst h; omega
    · exact k2 y h
theorem zBT : ∀ (xs : List Int) (x : Int), xs.foldl mx x = x ∨ xs.foldl mx x ∈ xs
  | [], x => .inl rfl
  | z :: zs, x => by
    have h0 : mx x z = x ∨ mx x z = z := by unfold mx; split <;> simp
    rcases zBT zs (mx x z) with h | h
    · have e : (z :: zs).foldl mx x = mx x z := h
      rcases h0 with h0 | h0
      · exact .inl (e.trans h0)
      · exact .inr (by rw [e, h0]; exact List.mem_cons_self ..)
    · exact .inr (List.mem_cons_of_mem _ h)
theorem ic_can {m : Nat} {l : List Int} (h : QS m l) : ∀ v ∈ l, 0 ≤ v ∧ v < ((m + l.length : Nat) : Int) := by
  induction h with
  | nil m => exact fun v hv => (by cases hv)
  | @old m x xs h0 h1 h ih =>
    intro v hv
    rw [List.length_cons]
    rcases List.mem_cons.1 hv with e | e
    · subst e; omega
    · have := ih v e; omega
  | @new m xs h ih =>
    intro v hv
    rw [List.length_cons]
    rcases List.mem_cons.1 hv with e | e
    · subst e; omega
    · have := ih v e; omega
def zDo (l : List Int) : Bool := l.all fun x => decide (¬ 0 < x)
theorem zEQ {l : List Int} (h : QS 0 l) (hl : l.length ≤ 8) : ∃ n : Int, ZO.f l = some n ∧ (n > 1 ↔ zDo l = false) := by
  have hb := ic_can h
  cases l with
  | nil => exact ⟨0, by unfold ZO.f; rfl, by simp [zDo]⟩
  | cons x xs =>
    obtain ⟨g1, g2⟩ := zCA xs x
    have hm : xs.foldl mx x ∈ x :: xs := by
      rcases zBT xs x with e | e
      · rw [e]; exact List.mem_cons_self ..
      · exact List.mem_cons_of_mem _ e
    have hmb := hb _ hm
    rw [Nat.zero_add] at hmb
    rw [List.length_cons] at hl hmb
    refine ⟨xs.foldl mx x + 1, ?_, ?_⟩
    · unfold ZO.f ZX.f
      rw [if_neg (by simp only [List.length_cons]; omega), yfy, QE (by omega) (by omega)]
    · constructor
      · intro hn
        refine Bool.eq_false_iff.2 fun e => ?_
        have := List.all_eq_true.1 e _ hm
        rw [decide_eq_true_eq] at this
        omega
      · intro hn
        refine Decidable.byContradiction fun hc => ?_
        refine Bool.eq_false_iff.1 hn (List.all_eq_true.2 fun y hy => ygy ?_)
        rcases List.mem_cons.1 hy with e | e
        · subst e; omega
        · have := g2 y e; omega
theorem zDR (l : List Int) (hl : l.length ≤ 8) : ∀ d i : Nat, i + d = l.length → Ev (fun k => qb.l0 k l (i : Int)) (zDo (l.drop i)) := by
  intro d
  induction d with
  | zero =>
    intro i hi
    rw [List.drop_eq_nil_of_le (by omega)]
    exact qg (f := fun _ => some true) (fun k => by rw [qb.l0, if_neg (by omega)]) (Ev.now _)
  | succ d ih =>
    intro i hi
    have hlt : i < l.length := by omega
    refine qg (fun k => by rw [qb.l0, if_pos (by omega), if_pos (by omega), zBK l i hlt, Zu (by omega)]) ?_
    rw [List.drop_eq_getElem_cons hlt]
    by_cases e : l[i] > 0
    · have : zDo (l[i] :: l.drop (i + 1)) = false := by
        unfold zDo; rw [List.all_cons, yhy (by omega), Bool.false_and]
      rw [this]
      exact qh e (Ev.now _)
    · have : zDo (l[i] :: l.drop (i + 1)) = zDo (l.drop (i + 1)) := by
        unfold zDo; rw [List.all_cons, ygy (by omega), Bool.true_and]
      rw [this]
      exact Zg e (ih (i + 1) (by omega))
theorem zBm {t : Tri} (h : QU t = true) : ∃ (b : Bool) (out : List Int) (n : Int), Ev (fun k => qb.f k t) b ∧ Ev (fun k => zR.f k t) out ∧ ZO.f out = some n ∧ (n > 1 ↔ b = false) := by
  obtain ⟨out, h1, h2, h3, h4, _⟩ := zCS h
  have h8 := (Zq h).1
  obtain ⟨n, n1, n2⟩ := zEQ h2 (by omega)
  have := zDR out (by omega) out.length 0 (by omega)
  rw [List.drop_zero] at this
  exact ⟨zDo out, out, n, Ev.bind h3 this, h4, n1, n2⟩
theorem zBA {t : Tri} (h : QU t = true) : zBf t t.length := by
  obtain ⟨h8, h4, _⟩ := Zq h
  refine ⟨rfl, h4, fun r hr x hx hb => ?_⟩
  obtain ⟨i, hi, rfl⟩ := List.getElem_of_mem hr
  obtain ⟨j, hj, rfl⟩ := List.getElem_of_mem hx
  have hj4 := h4 _ (List.getElem_mem hi)
  have e : fc t (i : Int) (j : Int) = t[i][j] := by show zK (zG t (i : Int)) (j : Int) = _; rw [JJ t i hi, zCO _ j hj]
  rcases zBS h (a := (i : Int)) (f := (j : Int)) (by omega) (by omega) (by omega) (by omega) with ⟨e1, _⟩ | ⟨e1, _⟩
  · rw [e] at e1; exact absurd (by omega) hb
  · rw [e] at e1; exact ⟨e1.2.1, e1.2.2.1, e1.2.2.2⟩
theorem zBU : ∀ d : Nat, zD7 (40 + d) = true
  | 0 => by decide +kernel
  | d + 1 => zD8 (zBU d)
theorem zER {a b : Tri} (ha : QU a = true) (hb : QU b = true) (hl : a.length = b.length) {r : Int} : Ev (fun k => if zEK k a b then some r else none) r := by
  refine ⟨40, fun n hn => ?_⟩
  have := zBU (n - 40)
  rw [show 40 + (n - 40) = n by omega] at this
  exact if_pos ⟨this, by omega, (Zq ha).1, zBA ha, by rw [hl]; exact zBA hb⟩
theorem zES (a b : Tri) (ha : Small a) (hb : Small b) : ∃ r : Int, Ev (fun k => qL.f k a b) r ∧ Ev (fun k => qC.f k a b) r := by
  have sa := Jp a
  have sb := Jp b
  have ia := Jo ha
  have ib := Jo hb
  by_cases ca : QU a = true
  · rw [ca] at sa ia
    by_cases cb : QU b = true
    · rw [cb] at sb ib
      obtain ⟨s, out, n, h1, h2, h3, h4⟩ := zBm ca
      by_cases cs : s = true
      · have hn : ¬ n > 1 := fun e => by rw [h4.1 e] at cs; cases cs
        have hq : ∃ r : Int, Ev (fun k => if a.length = b.length then (if a.length = 0 then some (1 : Int) else if zEK k a b then some (zBN a b a.length a.length : Int) else none) else some 0) r ∧ Ev (fun k => if a.length = b.length then (if a.length = 0 then some (1 : Int) else if zD5 a b then some (zBN a b a.length a.length : Int) else none) else some 0) r := by
          by_cases hl : a.length = b.length
          · by_cases hz : a.length = 0
            · exact ⟨1, qh hl (qh hz (Ev.now _)), qh hl (qh hz (Ev.now _))⟩
            · refine ⟨_, qh hl (Zg hz (zER ca cb hl)), qh hl (Zg hz (qh ?_ (Ev.now _)))⟩
              exact ⟨(Zq ca).1, zBA ca, by rw [hl]; exact zBA cb⟩
          · exact ⟨0, Zg hl (Ev.now _), Zg hl (Ev.now _)⟩
        obtain ⟨r, r1, r2⟩ := hq
        refine ⟨r, Ev.bind sa (qh rfl (Ev.bind sb (qh rfl (Ev.bind h1 (qh cs r1))))), Ev.bind ia (qh rfl (Ev.bind ib (qh rfl (Ev.bind h2 ?_))))⟩
        exact Ev.bind (zAI fun _ => h3) (Zg hn r2)
      · have hn : n > 1 := h4.2 (Bool.eq_false_iff.2 cs)
        refine ⟨-1, Ev.bind sa (qh rfl (Ev.bind sb (qh rfl (Ev.bind h1 (Zg cs (Ev.now _)))))), Ev.bind ia (qh rfl (Ev.bind ib (qh rfl (Ev.bind h2 ?_))))⟩
        exact Ev.bind (zAI fun _ => h3) (qh hn (Ev.now _))
    · exact ⟨-1, Ev.bind sa (qh rfl (Ev.bind sb (Zg cb (Ev.now _)))), Ev.bind ia (qh rfl (Ev.bind ib (Zg cb (Ev.now _))))⟩
  · exact ⟨-1, Ev.bind sa (Zg ca (Ev.now _)), Ev.bind ia (Zg ca (Ev.now _))⟩
end Go.Proofs.Ytfnopcbicceeaaa.P
namespace Go.Proofs.Ytfnopcbicceeaaa.P
open Go.RowKit Go.Proofs.YtfnopcbicceeaaaW.PrintWords Go.Proofs.Ytfnopcbicceeaaa.Lib
set_option linter.unusedVariables false
theorem szF_go (t : List (List qM)) (h : Fits t) (hl : t.length ≤ 1048576) : ∀ d n : Nat, ∀ a : Int, n + d = t.length → 0 ≤ a → a ≤ 1048576 → ∃ r, Ev (fun k => qR.l0 k t a (n : Int)) r ∧ (0 ≤ r → ∀ x ∈ t.drop n, x.length ≤ 1048576) ∧ r ≤ 1048576 := by
  intro d
  induction d with
  | zero =>
    intro n a hn h0 h1
    refine ⟨a, qg (f := fun _ => some a) (fun k => ?_) (Ev.now a), fun _ x hx => ?_, h1⟩
    · simp only [qR.l0]; rw [if_neg (by omega)]
    · rw [List.drop_eq_nil_of_le (by omega)] at hx; cases hx
  | succ d ih =>
    intro n a hn h0 h1
    have hlt : n < t.length := by omega
    have hf := h.2 t[n] (List.getElem_mem hlt)
    by_cases hc : a - t[n].length < 0
    · refine ⟨-1, qg (f := fun _ => some (-1)) (fun k => ?_) (Ev.now (-1)), fun h => by omega, by omega⟩
      simp only [qR.l0]
      rw [if_pos (by omega), if_pos (by omega), Qs t n hlt, zAj _ a h0 h1 hf, yfy, if_pos hc]
      rfl
    · obtain ⟨r, hr, hr2, hr3⟩ := ih (n + 1) (a - t[n].length) (by omega) (by omega) (by omega)
      refine ⟨r, qg (fun k => ?_) hr, fun h x hx => ?_, hr3⟩
      · simp only [qR.l0]
        rw [if_pos (by omega), if_pos (by omega), Qs t n hlt, zAj _ a h0 h1 hf, yfy, if_neg hc, if_neg (by omega), Zu (by omega)]
      · rw [List.drop_eq_getElem_cons hlt] at hx
        rcases List.mem_cons.1 hx with rfl | hx
        · omega
        · exact hr2 h x hx
theorem QX (t : List (List qM)) (h : Fits t) (a : Int) (h0 : 0 ≤ a) (h1 : a ≤ 1048576) : ∃ r, Ev (fun k => zx.f k t a) r ∧ (¬ r < 0 → zC9 t) ∧ r ≤ 1048576 := by
  have hf := h.1
  by_cases hl : (a - (t.length : Int)) < 0
  · refine ⟨-1, ?_, fun h => by omega, by omega⟩
    refine Ev.bind (a := -1) (zAI (fun k => ?_)) (qh (by omega) (Ev.now _))
    unfold qR.f
    rw [QE (by omega) (by omega), if_pos hl]
  · obtain ⟨r, hr, hr2, hr3⟩ := szF_go t h (by omega) t.length 0 (a - t.length) (by omega) (by omega) (by omega)
    have h2 : Ev (fun k => qR.f k t a) r := by
      refine Ev.congr (fun k => ?_) hr
      unfold qR.f
      rw [QE (by omega) (by omega), if_neg hl]
      rfl
    by_cases hn : r < 0
    · exact ⟨-1, Ev.bind h2 (qh hn (Ev.now _)), fun h => by omega, by omega⟩
    · exact ⟨r, Ev.bind h2 (Zg hn (Ev.now _)), fun _ => ⟨by omega, fun x hx => hr2 (by omega) x (by rwa [List.drop_zero])⟩, hr3⟩
end Go.Proofs.Ytfnopcbicceeaaa.P
namespace Go.Proofs.Ytfnopcbicceeaaa.Pure
open Go.RowKit Go.Proofs.Ytfnopcbicceeaaa.P Go.Proofs.Ytfnopcbicceeaaa.Lib Go.Proofs.YtfnopcbicceeaaaW.PrintWords
set_option linter.unusedVariables false
theorem JK (l0 l1 : List (List qM)) (h0 : Fits l0) (h1 : Fits l1) : ∃ k, ZG.f k l0 l1 = some true := by
  refine Ev.rounds ?_
  obtain ⟨r0, hr0, hs0, hle⟩ := QX l0 h0 1048576 (by omega) (by omega)
  refine Ev.bind hr0 ?_
  by_cases hn0 : r0 < 0
  · exact qh hn0 (Ev.now true)
  refine Zg hn0 ?_
  obtain ⟨r1, hr1, hs1, _⟩ := QX l1 h1 r0 (by omega) hle
  refine Ev.bind hr1 ?_
  by_cases hn1 : r1 < 0
  · exact qh hn1 (Ev.now true)
  refine Zg hn1 ?_
  have hto0 := Qo l0 (hs0 hn0)
  have hto1 := Qo l1 (hs1 hn1)
  have hS0 := zBR (hs0 hn0)
  have hS1 := zBR (hs1 hn1)
  obtain ⟨o, ho1, ho2⟩ := zES (cvT l0) (cvT l1) hS0 hS1
  refine Ev.bind hto0 ?_
  refine Ev.bind hto1 ?_
  refine Ev.bind ho1 ?_
  refine Ev.bind hto0 ?_
  refine Ev.bind hto1 ?_
  refine Ev.bind ho2 (qh rfl ?_)
  refine Ev.bind hto0 ?_
  refine Ev.bind (Qp _ hS0) (qh rfl ?_)
  refine Ev.bind hto1 ?_
  exact Ev.bind (Qp _ hS1) (qh rfl (Ev.now true))
end Go.Proofs.Ytfnopcbicceeaaa.Pure
namespace Go.Proofs.Ytfnopcbicceeaaa.Lib
open Go.RowKit Go.Proofs.YtfnopcbicceeaaaW.PrintWords Go.Joins Go.Deep Go.WideShapes Go.ChangeShapes
set_option linter.unusedVariables false
def zDp (P : Program) (t : TypeId) {α : Type} (d : Kd α) : Prop := ∀ (H : Type) (enc : TypeId × Value → H) (w : World) (base : Nat) (spare : Nat → Bool) (held : Bool) (fuel : Nat) (cs : List Value) (x : DataW H × List MemPlace),
  DataW.trod enc P w base spare held fuel t cs = some x → ∃ y, d.K w y cs
theorem zBV {α : Type} {R : Nat → α → Prop} : ∀ n, (∀ i, i < n → ∃ y, R i y) → ∃ ys : List α, ys.length = n ∧ ∀ j p, ys[j]? = some p → R j p
  | 0, _ => ⟨[], rfl, fun j p h => by simp at h⟩
  | n + 1, h => by
    obtain ⟨ys, hl, hr⟩ := zBV n (fun i hi => h i (by omega))
    obtain ⟨y, hy⟩ := h n (by omega)
    refine ⟨ys ++ [y], by simp [hl], fun j p hj => ?_⟩
    by_cases hlt : j < n
    · rw [List.getElem?_append_left (by omega)] at hj
      exact hr j p hj
    · have hjn : j < (ys ++ [y]).length := (List.getElem?_eq_some_iff.1 hj).1
      have : j = n := by simp [hl] at hjn; omega
      subst this
      rw [List.getElem?_append_right (by omega), hl, Nat.sub_self] at hj
      injection hj with hj
      rw [← hj]
      exact hy
theorem JL {P : Program} {t e : TypeId} {α : Type} {d : Kd α} (ht : P.underlying t = some (.slice e)) (hc : P.cellsOf e = d.sz) (h : zDp P e d) : zDp P t (Kd.slice e d) := by
  intro H enc w base spare held fuel cs x hx
  rcases open_slice ht hx with ⟨rfl, _⟩ | ⟨a, len, cap, m, n, D, Pl, rfl, hb, hl, hm, hmm, _, hi⟩
  · exact ⟨[], none, 0, rfl, yoy _, Kd.C_nil d w⟩
  · have each : ∀ i, i < len → ∃ y, ∃ cs', w.cells? base (a.add (i * d.sz)) d.sz = some cs' ∧ d.K w y cs' := by
      intro i hil
      have him : i < m := by rw [hmm]; split <;> omega
      obtain ⟨cs', h1, h2⟩ := hi i him
      obtain ⟨y, hy⟩ := h H enc w base spare held n cs' _ h2
      rw [hc] at h1
      exact ⟨y, cs', h1, hy⟩
    obtain ⟨ys, hlen, hys⟩ := zBV len each
    refine ⟨ys, some a, cap, by rw [hlen], by omega, rfl, ?_, fun _ => ⟨a, rfl, fun j p hj => ?_⟩⟩
    · unfold maxLen at hm; omega
    · obtain ⟨cs', h1, h2⟩ := hys j p hj
      obtain ⟨_, h3, h4⟩ := World.cells?_some h1
      refine ⟨cs', h3, h2, fun i u hu => ?_⟩
      have hil : i < d.sz := by rw [← h3]; exact (List.getElem?_eq_some_iff.1 hu).1
      rw [← hu, ← h4 i hil, Go.Deep.add_add]
theorem Jq {P : Program} {t : TypeId} {f0 f1 : Field} {α : Type} (hs : P.underlying t = some (.struct #[f0, f1])) (hone : oneCellFields P #[f0, f1] = true) (hC : P.cellsOf t = 2)
    (h0 : P.underlying f0.type = some (.int .i64)) (h1 : P.underlying f1.type = some (.int .i64)) (d : Kd α) (mk : Int → Int → α) (hK : ∀ w a b, d.K w (mk a b) [.int .i64 a, .int .i64 b]) : zDp P t d := by
  intro H enc w base spare held fuel cs x h
  obtain ⟨y0, y1, n, hx, hl, g0, g1⟩ := trod_struct2 hs h
  obtain ⟨o0, k0⟩ := hone_of hone 0 f0 rfl
  obtain ⟨o1, k1⟩ := hone_of hone 1 f1 rfl
  rw [hC] at hl
  match cs, hl with
  | [c0, c1], _ =>
    rw [o0, k0] at g0
    rw [o1, k1] at g1
    obtain ⟨a, e0, _, _⟩ := DataW.trod_int h0 g0
    obtain ⟨b, e1, _, _⟩ := DataW.trod_int h1 g1
    simp at e0 e1
    subst e0 e1
    exact ⟨mk a b, hK w a b⟩
section
variable {H : Type} {enc : TypeId × Value → H} {P : Program} {w : World} {base : Nat} {spare : Nat → Bool} {held : Bool}
theorem array1 {α : Type} {cs : Array α} (h : cs.size = 1) : ∃ c0, cs = #[c0] := by
  obtain ⟨l⟩ := cs
  match l, h with
  | [c0], _ => exact ⟨c0, rfl⟩
theorem zBW {r : Reach} {b0 : Nat} {t e : TypeId} {f0 : Field} {α : Type} {d : Kd α} {v : Value} {D : DataW H} {p : List MemPlace} (hs : P.underlying t = some (.struct #[f0])) (hone : oneCellFields P #[f0] = true) (hC : P.cellsOf t = 1)
    (ho : zDp P f0.type (Kd.slice e d)) (hv : Value.okWide P w r b0 t v) (h : DataW.Trod enc P w base spare held t v D p) :
    ∃ (A : Option Addr) (c : Nat) (l : List α), v = .agg #[.slice A l.length c] ∧ l.length ≤ c ∧ d.C w A l.length l := by
  obtain ⟨cs, rfl, hsz⟩ := okWide_struct hs hv
  obtain ⟨c0, rfl⟩ := array1 (hsz.trans hC)
  obtain ⟨fuel, hf⟩ := h
  obtain ⟨y0, n, hx, _, h0⟩ := trod_struct1 hs hf
  obtain ⟨o0, k0⟩ := hone_of hone 0 f0 rfl
  have h0' : DataW.trod enc P w base spare held n f0.type [c0] = some y0 := by simpa [Value.cells, o0, k0] using h0
  obtain ⟨l, A, c, e1, hl, hCC⟩ := ho H enc w base spare held n _ _ h0'
  simp at e1
  subst e1
  exact ⟨A, c, l, rfl, hl, hCC⟩
end
theorem zBX {e : Nat} {α : Type} {d : Kd α} {w : World} {A : Option Addr} {l : List (List α)} (h : (Kd.slice e d).C w A l.length l) : l.length ≤ 9223372036854775807 ∧ ∀ r ∈ l, r.length ≤ 9223372036854775807 := by
  refine ⟨h.2.1, fun r hr => ?_⟩
  obtain ⟨j, hj, rfl⟩ := List.mem_iff_getElem.1 hr
  obtain ⟨ad, _, hc⟩ := h.2.2 (by omega)
  obtain ⟨c, _, hK, _⟩ := hc j _ (List.getElem?_eq_getElem hj)
  obtain ⟨A', c', _, _, hC⟩ := hK
  exact hC.2.1
end Go.Proofs.Ytfnopcbicceeaaa.Lib
